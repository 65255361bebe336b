/-
  What the statements rest on, part 2 of 4: many small texts, one behind the other.
-/
import Derived.Test.YtlpnoogcdnfllaaGreatDoorMrgA
import Derived.OrdersHeld
import Derived.Laws.StructEq
import Derived.Laws.ResultCell
set_option linter.unusedSimpArgs false
set_option linter.unusedVariables false
set_option linter.unnecessarySimpa false
namespace Go.Proofs.YtlpnoogcdnfllaaGreatDoor
open Go.RowKit
section
variable {P : Program} {n : Nat} {σ : Sig} {w : World} {x y lo hi' : Operand} {t t' e ty T : TypeId} {B len cap i j g : Nat} {kk : IntKind} {z v : Value} {bs : Nat} {xs : List Value}
theorem EX.ownLE (ht : P.underlying t = some (.slice e)) (hi : TI P e z 1 bs) (hx : ev σ x = some (.slice (some ⟨g, 0, none⟩) len cap)) (hl : ev σ lo = some (.int kk (i : Int))) (h : i ≤ len ∧ len ≤ cap ∧ i < cap) :
    EX P n σ (.slice t x (some lo) none none) ty w (.slice (some ⟨g, i, none⟩) (len - i) (cap - i)) w := fun Ac ha dst pos after gd => by
  simp only [execOp, ha.ev hx, ha.ev hl, Option.map_some, Option.map_none]
  have hadd : (⟨g, 0, none⟩ : Addr).add i = ⟨g, i, none⟩ := by unfold Addr.add; split <;> simp_all
  have hne : ¬ cap = i := by omega
  simp [Instr.sliceAt, run_underlying ht, Instr.slice, Instr.sliceBounds, Sem.run_bind, run_sliceBoundI _ _ h.1, run_sizeOf hi, hne, hadd]
theorem EX.sliceALH {A : Option Addr} {k2 : IntKind} (ht : P.underlying t = some (.slice e)) (hi : TI P e z 1 bs) (hx : ev σ x = some (.slice A len cap)) (hl : ev σ lo = some (.int kk (i : Int))) (hh : ev σ hi' = some (.int k2 (j : Int))) (h : i ≤ j ∧ j ≤ len ∧ len ≤ cap) (hs : Sl w B A xs) (hln : xs.length = len) :
    ∃ A', EX P n σ (.slice t x (some lo) (some hi') none) ty w (.slice A' (j - i) (cap - i)) w ∧ Sl w B A' ((xs.drop i).take (j - i)) :=
  ⟨if cap = i then A else A.map (·.add (i * 1)), fun Ac ha dst pos after gd => by
    simp only [execOp, ha.ev hx, ha.ev hl, ha.ev hh, Option.map_some, Option.map_none]
    simp [Instr.sliceAt, run_underlying ht, Instr.slice, Instr.sliceBounds, Sem.run_bind, run_sliceBoundI j _ h.1, run_sliceBoundI cap _ (Nat.le_trans h.2.1 h.2.2), run_sizeOf hi], (hs.cut (by omega)).pre _⟩
theorem EX.eqlA0 {l c : Nat} (hu : P.underlying t = some (.slice e)) (hx : ev σ x = some (.slice none l c)) (hy : ev σ y = some (.slice none 0 0)) : EX P n σ (.binOp .eql t x y T) ty w (.bool true) w :=
  EX.bin hx hy (by unfold eqGuard; rfl) (run_eq rfl (fun d => by simp [Op.equalIn, run_underlying hu, Sem.run_bind]))
theorem EX.eqlA1 {a : Addr} {l c : Nat} (hu : P.underlying t = some (.slice e)) (hx : ev σ x = some (.slice (some a) l c)) (hy : ev σ y = some (.slice none 0 0)) : EX P n σ (.binOp .eql t x y T) ty w (.bool false) w :=
  EX.bin hx hy (by unfold eqGuard; rfl) (run_eq rfl (fun d => by simp [Op.equalIn, run_underlying hu, Sem.run_bind]))
end
theorem Own.ne {w : World} {B T T' s n b : Nat} {v : Value} {xs l : List Value} (h : Own w B T s v n xs) (hb : Bk w b T' l) (hne : T ≠ T') : ∀ k, v.ownBlock = some k → b ≠ k := by
  intro k hk
  rcases h.2 with ⟨rfl, _⟩ | ⟨g, cap, rest, rfl, _, hg, _⟩
  · simp [Value.ownBlock] at hk
  · simp [Value.ownBlock] at hk
    subst hk
    exact hb.ne hg (Ne.symm hne)
theorem Own.one {w : World} {B T s n : Nat} {v : Value} {xs : List Value} (h : Own w B T s v n xs) : v.oneCell' = true := by
  rcases h.2 with ⟨rfl, _⟩ | ⟨g, cap, rest, rfl, _⟩ <;> rfl
theorem Own.blkT {w : World} {B T s n : Nat} {v : Value} {xs : List Value} (h : Own w B T s v n xs) : ∀ k, v.ownBlock = some k → B ≤ k ∧ ∃ l, Bk w k T l := by
  intro k hk
  rcases h.2 with ⟨rfl, _⟩ | ⟨g, cap, rest, rfl, hB, hg, _⟩
  · simp [Value.ownBlock] at hk
  · simp [Value.ownBlock] at hk
    subst hk
    exact ⟨hB, _, hg⟩
section
variable {P : Program} {R : Act → World → Prop} {ops : Array Oper} {rest : List Oper} {k : List KI} {n : Nat} {σ : Sig} {w : World} {x y lo hi' : Operand} {t t' e ty T : TypeId} {pos : String} {after : Array Edge} {gd : Option (Nat × Bool)} {d : Nat} {v z : Value} {bs B len cap i j g : Nat} {l xs : List Value} {kk k2 : IntKind} {s : List UInt8}
theorem OW.sliceALH {A : Option Addr} (hg : wantS ops σ gd = some true) (hd : Nat.blt d n = true) (ht : P.underlying t = some (.slice e)) (hi : TI P e z 1 bs) (hx : ev σ x = some (.slice A len cap)) (hl : ev σ lo = some (.int kk (i : Int))) (hh : ev σ hi' = some (.int k2 (j : Int))) (h : i ≤ j ∧ j ≤ len ∧ len ≤ cap) (hs : Sl w B A xs) (hln : xs.length = len)
    (hn : ∀ A', Sl w B A' ((xs.drop i).take (j - i)) → OW P R ops rest k n ((d, .slice A' (j - i) (cap - i)) :: σ) w) : OW P R ops (⟨some d, .slice t x (some lo) (some hi') none, ty, pos, after, gd⟩ :: rest) k n σ w := by
  obtain ⟨A', h1, h2⟩ := EX.sliceALH (P := P) (n := n) (ty := ty) ht hi hx hl hh h hs hln
  exact OW.val hg hd h1 (hn A' h2)
theorem OW.appendZB {kx ki : IntKind} {m l' : Nat} (hg : wantS ops σ gd = some true) (hd : Nat.blt d n = true) (ht : P.underlying t = some (.slice e)) (hk : P.underlying t' = some (.int kx)) (hi : TI P e z 1 bs) (hz1 : z.oneCell' = true)
    (hx : ev σ x = some v) (hy : ev σ y = some (.int ki (m : Int))) (hown : Own w 0 e 1 v l' xs) (hm : 0 < m)
    (h63 : l' + m ≤ maxLen) (hbytes : (l' + m) * bs ≤ 140737488355328)
    (h : ∀ v' w', Own w' 0 e 1 v' (l' + m) (xs ++ List.replicate m z) → w.grownBy w' v.ownBlock → (v'.ownBlock = v.ownBlock ∨ v'.ownBlock = some w.heap.size) → OW P R ops rest k n ((d, v') :: σ) w') :
    OW P R ops (⟨some d, .call { callee := .builtin .append, args := #[x, y], argTypes := #[t, t'] }, ty, pos, after, gd⟩ :: rest) k n σ w := by
  obtain ⟨v', w', hr, h2, h3, h4⟩ := run_append_zeros (P := P) (w := w) (ty := ty) (ki := ki) 0 t' hk ht hi hz1 hown h63 hbytes (Nat.zero_le _) hm
  refine OW.val hg hd (v := v') (w' := w') ?_ (h v' w' h2 h3 h4)
  intro A ha dst pos after gd
  simp only [execOp, resolve, invoke, builtin, Sem.run_bind, Sem.run_pure, Result.andThen_ok, List.map_toArray, List.map_cons, List.map_nil, ha.ev hx, ha.ev hy, hr]
theorem OW.copyS (hg : wantS ops σ gd = some true) (hd : Nat.blt d n = true) (ht : P.underlying t = some (.slice e)) (ht' : P.underlying t' = some .string) (hi : TI P e z 1 bs) (hx : ev σ x = some (.slice (some ⟨g, i, none⟩) len cap)) (hy : ev σ y = some (str s)) (hs : s.length ≤ len) (hb : Bk w g T l) (hl : i + s.length ≤ l.length)
    (hn : ∀ w', Bk w' g T (l.take i ++ bytesV s ++ l.drop (i + s.length)) → Mo w w' [g] → OW P R ops rest k n ((d, .int .i64 (s.length : Int)) :: σ) w') :
    OW P R ops (⟨some d, .call { callee := .builtin .copy, args := #[x, y], argTypes := #[t, t'] }, ty, pos, after, gd⟩ :: rest) k n σ w := by
  obtain ⟨w', hr, hb', hg'⟩ := run_storeCells_bk P w g i T (bytesV s) 0 l w hb (by simpa [bytesV] using hl) bytesV_one
  have hsrc := (Src.of_str (w := w) ht' s).cells
  have hlen := (Src.of_str (w := w) ht' s).len
  refine OW.val hg hd (v := .int .i64 (s.length : Int)) (w' := w') ?_ (hn w' (by simpa [bytesV] using hb') (Mo.grown hg' (fun k e => by simp at e; simp [e])))
  intro A ha dst pos after gd
  have hmin : Nat.min s.length len = s.length := Nat.min_eq_left hs
  have hsz := run_sizeOf (w := w) hi
  simp only [execOp, resolve, invoke, builtin, Sem.run_bind, Sem.run_pure, Result.andThen_ok, List.map_toArray, List.map_cons, List.map_nil, ha.ev hx, ha.ev hy]
  simp [Builtin.copy_, run_underlying ht, Sem.run_bind, hlen, hsz, hmin, hsrc, hr, goInt]
end
def Tm (w w' : World) (B : Nat) (p : TypeId → Bool) : Prop := ∃ S, Mo w w' S ∧ ∀ k ∈ S, B ≤ k ∧ ∃ T l, Bk w k T l ∧ p T = true
section
variable {w w' w'' : World} {B C : Nat} {p q : TypeId → Bool} {b : Nat} {T : TypeId} {l : List Value}
theorem Tm.refl (w : World) (B : Nat) (p : TypeId → Bool) : Tm w w B p := ⟨[], Mo.refl _ _, by simp⟩
theorem Tm.of_ext (h : Ext w w') (B : Nat) (p : TypeId → Bool) : Tm w w' B p := ⟨[], Mo.of_ext h _, by simp⟩
theorem Tm.mono (h : Tm w w' B p) (hp : ∀ T, p T = true → q T = true) : Tm w w' B q := by
  obtain ⟨S, hm, hS⟩ := h
  exact ⟨S, hm, fun k hk => let ⟨h1, T, l, h2, h3⟩ := hS k hk; ⟨h1, T, l, h2, hp T h3⟩⟩
theorem Tm.any (h : Tm w w' B p) : Tm w w' B (fun _ => true) := h.mono fun _ _ => rfl
theorem Tm.size (h : Tm w w' B p) : w.heap.size ≤ w'.heap.size := by obtain ⟨_, hm, _⟩ := h; exact hm.size
theorem Tm.trans (h : Tm w w' B p) (k : Tm w' w'' B p) : Tm w w'' B p := by
  obtain ⟨S, hm, hS⟩ := h
  obtain ⟨S', hm', hS'⟩ := k
  refine ⟨S ++ S'.filter (fun k => decide (k < w.heap.size)), ?_, fun k hk => ?_⟩
  · refine ((hm.mono (S' := S ++ S') (fun k hk => List.mem_append_left _ hk)).trans (hm'.mono (fun k hk => List.mem_append_right _ hk))).fresh fun k hk hlt => ?_
    rcases List.mem_append.1 hk with hk | hk
    · exact List.mem_append_left _ hk
    · exact List.mem_append_right _ (List.mem_filter.2 ⟨hk, by simpa using hlt⟩)
  · by_cases h1 : k ∈ S
    · exact hS k h1
    · rcases List.mem_append.1 hk with hk | hk
      · exact hS k hk
      · obtain ⟨hk, hlt⟩ := List.mem_filter.1 hk
        obtain ⟨h2, T, l, h3, h4⟩ := hS' k hk
        exact ⟨h2, T, l, h3.of_block (hm.block k (by simpa using hlt) h1).symm, h4⟩
theorem Tm.bk (h : Tm w w' B p) (hb : Bk w b T l) (hp : p T = false) : Bk w' b T l := by
  obtain ⟨S, hm, hS⟩ := h
  refine hb.mo hm fun hk => ?_
  obtain ⟨_, T', l', h2, h3⟩ := hS b hk
  obtain ⟨rfl, _⟩ := hb.det h2
  rw [hp] at h3
  cases h3
theorem Tm.own {s n : Nat} {v : Value} {xs : List Value} (h : Tm w w' B p) (ho : Own w C T s v n xs) (hp : p T = false) : Own w' C T s v n xs := by
  obtain ⟨S, hm, hS⟩ := h
  refine ho.mo hm fun k hk hkS => ?_
  obtain ⟨_, T', l', h2, h3⟩ := hS k hkS
  obtain ⟨_, l2, h4⟩ := ho.blkT k hk
  obtain ⟨rfl, _⟩ := h4.det h2
  rw [hp] at h3
  cases h3
theorem Tm.below {a : World} (hb : Below C a w) (h : Tm w w' B p) (hC : C ≤ w.heap.size) (hB : C ≤ B) : Below C a w' := by
  obtain ⟨S, hm, hS⟩ := h
  exact below_mo hb hm hC fun k hk => Nat.le_trans hB (hS k hk).1
theorem Tm.set (hb : Bk w b T l) (hm : Mo w w' [b]) (hB : B ≤ b) : Tm w w' B (fun U => U == T) := ⟨[b], hm, fun k hk => by
  simp only [List.mem_singleton] at hk
  subst hk
  exact ⟨hB, T, l, hb, by simp⟩⟩
theorem Tm.grown {s n : Nat} {v : Value} {xs : List Value} (ho : Own w B T s v n xs) (hg : w.grownBy w' v.ownBlock) : Tm w w' B (fun U => U == T) := ⟨v.ownBlock.toList, Mo.grown hg (fun k e => by rw [e]; simp), fun k hk => by
  obtain ⟨h1, l, h2⟩ := ho.blkT k (Option.mem_toList.1 hk)
  exact ⟨h1, T, l, h2, by simp⟩⟩
theorem Tm.ownMo {s n : Nat} {v : Value} {xs : List Value} (ho : Own w B T s v n xs) (hm : Mo w w' v.ownBlock.toList) : Tm w w' B (fun U => U == T) := ⟨v.ownBlock.toList, hm, fun k hk => by
  obtain ⟨h1, l, h2⟩ := ho.blkT k (Option.mem_toList.1 hk)
  exact ⟨h1, T, l, h2, by simp⟩⟩
theorem Own.base {s n : Nat} {v : Value} {xs : List Value} (h : Own w C T s v n xs) (hB : ∀ k, v.ownBlock = some k → B ≤ k) : Own w B T s v n xs := by
  refine ⟨h.1, ?_⟩
  rcases h.2 with hn | ⟨g, cap, rest, rfl, _, r⟩
  · exact .inl hn
  · exact .inr ⟨g, cap, rest, rfl, hB g rfl, r⟩
end
end Go.Proofs.YtlpnoogcdnfllaaGreatDoor
namespace Go.Proofs.YtlpnoogcdnfllaaGreatDoor
open Go.RowKit Pth
theorem Bk.isCells {w : World} {b : Nat} {T : TypeId} {l : List Value} (h : Bk w b T l) : ∃ o : Obj, w.heap[b]? = some o ∧ o.isCells = true := by
  obtain ⟨fr, h, _⟩ := h
  exact ⟨_, h, rfl⟩
theorem Bk.turned {A B : World} {row : Option Nat} {C b : Nat} {T : TypeId} {l : List Value} (h : Bk A b T l) (hg : A.grownBy B row) (hr : ∀ r, row = some r → C ≤ r ∧ ∃ o : Obj, A.heap[r]? = some o ∧ o.isCells = false) : Bk B b T l :=
  h.of_block (hg.block b h.lt fun e => by
    obtain ⟨_, o, ho, hn⟩ := hr b e.symm
    obtain ⟨o', ho', hc⟩ := h.isCells
    rw [ho] at ho'
    cases ho'
    rw [hc] at hn
    cases hn)
theorem Own.turned {A B : World} {row : Option Nat} {C B0 s n : Nat} {T : TypeId} {v : Value} {xs : List Value} (h : Own A B0 T s v n xs) (hg : A.grownBy B row) (hr : ∀ r, row = some r → C ≤ r ∧ ∃ o : Obj, A.heap[r]? = some o ∧ o.isCells = false) : Own B B0 T s v n xs :=
  h.of_blocks fun k hk => by
    obtain ⟨_, l, hb⟩ := h.blkT k hk
    refine hg.block k hb.lt fun e => ?_
    obtain ⟨_, o, ho, hn⟩ := hr k e.symm
    obtain ⟨o', ho', hc⟩ := hb.isCells
    rw [ho] at ho'
    cases ho'
    rw [hc] at hn
    cases hn
theorem Ext.turned {w A B : World} {row : Option Nat} {C : Nat} (h : Ext w A) (hC : w.heap.size ≤ C) (hg : A.grownBy B row) (hr : ∀ r, row = some r → C ≤ r ∧ ∃ o : Obj, A.heap[r]? = some o ∧ o.isCells = false) : Ext w B :=
  h.grown hg fun k e => Nat.le_trans hC (hr k e).1
theorem Mo.keeps {w w' : World} {S : List Nat} (h : Mo w w' S) (hS : ∀ k ∈ S, ∃ T l, Bk w k T l) : KeepsOthers w w' :=
  ⟨h.size, fun k o hk ho => by
    refine (h.block k (Array.getElem?_eq_some_iff.1 hk).1 fun hm => ?_).trans hk
    obtain ⟨T, l, hb⟩ := hS k hm
    obtain ⟨o', ho', hc⟩ := hb.isCells
    rw [hk] at ho'
    cases ho'
    rw [hc] at ho
    cases ho⟩
theorem clean_s (s : List UInt8) (hs : s.length ≤ 1000000000000) (w : World) : Ret Tryz.prog 61 [str s] w fun v w' => v = .tuple #[str (cleanP s).1, .int .i64 (((cleanP s).2 : Nat) : Int)] ∧ Ext w w' := by
  refine Ret.enterR 3 Tryz.func61 rfl Tryz.ntmps61 (by kernel_rfl) rfl ?_
  refine KR.seq (KR.region ?_)
  refine OR.boxB rfl rfl rfl rfl ?_
  rintro sb w1 hge1 hs1 hx1
  refine OR.val rfl rfl (EX.assign rfl) ?_
  refine OR.val rfl rfl (EX.assign rfl) ?_
  refine OR.nil ?_
  refine KR.scope (fun _ _ _ h => h) (KR.seq (KR.region ?_))
  refine OR.buildB 0 rfl rfl Tryz.underlying54 ti9 rfl rfl rfl rfl (by first | rfl | (simp only [List.all_cons, List.all_nil, Bool.and_true, Bool.and_eq_true]; assumption)) (by decide) ?_
  rintro gb w2 hge2 hg2 hx2
  refine OR.allocB (l := [.slice none 0 0]) rfl rfl ti54 rfl ?_
  rintro ob w3 hge3 ho3 hx3
  have hob : w1.heap.size ≤ ob := by have := hx2.size; omega
  refine OR.storeB rfl ti54 rfl rfl (by first | rfl | assumption | exact Own.one (by assumption)) (ho3) (by simp) ?_
  rintro w4 ho4 hm4
  refine OR.nil ?_
  refine KR.seq (KR.region ?_)
  refine OR.val rfl rfl (EX.makeFunc rfl rfl) ?_
  refine OR.val rfl rfl (EX.assign rfl) ?_
  refine OR.nil ?_
  refine KR.seq (KR.seq (KR.region ?_))
  simp only [List.set_cons_zero] at ho4
  have hown4 : Own w4 w1.heap.size 9 1 (.slice (some ⟨gb, 0, none⟩) 0 0) 0 (txtsV []) := ((Own.of_bk (l := []) hg2 hge2 rfl (by decide)).ext hx3).mo hm4 (fun k hk => by
    have := (hg2.ext hx3).ne ho3 (by decide)
    simp [Value.ownBlock] at hk
    subst hk
    simpa using this)
  have hx4 : Ext w1 w4 := below_mo (hx2.trans hx3) hm4 (hx2.trans hx3).size (fun k hk => by simp at hk; subst hk; have := hx2.size; omega)
  have hs4 : Bk w4 sb 9 [str s] := hs1.ext hx4
  refine OR.val rfl rfl (EX.load Tryz.underlying9 rfl rfl (hs4.cell_of rfl)) ?_
  refine OR.val rfl rfl (EX.lenS Tryz.underlying9 rfl) ?_
  refine OR.val rfl rfl (EX.move rfl) ?_
  refine OR.nil ?_
  refine KR.block ?_
  refine KR.loop1 (fun (i : Nat) => i ≤ s.length ∧ ∀ c ∈ s.take i, 32 ≤ c.toNat ∧ c.toNat ≤ 126) (fun (i : Nat) => [(1, .pointer (some ⟨sb, 0, none⟩)), (4, .pointer (some ⟨ob, 0, none⟩)), (5, .func (.func 78) #[] #[.pointer (some ⟨sb, 0, none⟩)]), (13, .int .i64 ((s.length : Nat) : Int)), (14, .int .i64 ((i : Nat) : Int))]) (fun (i : Nat) => w4) (fun (i : Nat) => s.length - i) (0) ⟨rfl, rfl, rfl, rfl, rfl, trivial⟩ rfl ?_ ?_
  · exact ⟨by omega, by simp⟩
  · rintro i ⟨hi, hok⟩
    refine KR.seq (KR.region ?_)
    refine OR.val rfl rfl (by first | exact EX.lssN rfl rfl | exact EX.lssZ rfl rfl) ?_
    refine OR.nil ?_
    refine KR.seq ?_
    refine KR.condD rfl (fun hlt => ?_) (fun hlt => ?_)
    · have hbad : ¬ (32 ≤ s[i].toNat ∧ s[i].toNat ≤ 126) → cleanP s = ([], 140) := fun h => by
        unfold cleanP
        rw [if_neg]
        rintro ⟨h1, _⟩
        exact h (h1 _ (List.getElem_mem hlt))
      refine KR.skip (KR.seq (KR.block (KR.seq (KR.region ?_))))
      refine OR.val rfl rfl (EX.move rfl) ?_
      refine OR.val rfl rfl (EX.assign rfl) ?_
      refine OR.nil ?_
      refine KR.seq ?_
      refine KR.region ?_
      refine OR.val rfl rfl (EX.load Tryz.underlying9 rfl rfl (hs4.cell_of rfl)) ?_
      refine OR.val rfl rfl (EX.move rfl) ?_
      refine OR.val rfl rfl (EX.indexS Tryz.underlying9 rfl rfl (List.getElem?_eq_getElem (by omega))) ?_
      refine OR.val rfl rfl (by first | exact EX.lssN (b := 32) rfl rfl | exact EX.lssZ rfl rfl) ?_
      refine OR.val rfl rfl (EX.move rfl) ?_
      refine OR.splitD 21 rfl (fun h1 => ?_) (fun h1 => ?_)
      · refine OR.pass rfl rfl ?_
        refine OR.pass rfl rfl ?_
        refine OR.pass rfl rfl ?_
        refine OR.pass rfl rfl ?_
        refine OR.val rfl rfl (EX.pickT rfl rfl) ?_
        refine OR.nil ?_
        refine KR.condT rfl (KR.seq (KR.region ?_))
        refine OR.val rfl rfl (EX.assign rfl) ?_
        refine OR.val rfl rfl (EX.assign rfl) ?_
        refine OR.nil ?_
        refine KR.ret (retR2 (.inr rfl) rfl rfl rfl rfl rfl ?_)
        rw [hbad (by omega)]
        exact ⟨rfl, hx1.trans hx4⟩
      · skip
        refine OR.val rfl rfl (EX.load Tryz.underlying9 rfl rfl (hs4.cell_of rfl)) ?_
        refine OR.val rfl rfl (EX.move rfl) ?_
        refine OR.val rfl rfl (EX.indexS Tryz.underlying9 rfl rfl (List.getElem?_eq_getElem (by omega))) ?_
        refine OR.val rfl rfl (by first | exact EX.gtrN (b := 126) rfl rfl | exact EX.gtrZ rfl rfl) ?_
        refine OR.val rfl rfl (EX.pickF rfl rfl) ?_
        refine OR.nil ?_
        refine KR.condD rfl (fun h2 => ?_) (fun h2 => ?_)
        · refine KR.seq (KR.region ?_)
          refine OR.val rfl rfl (EX.assign rfl) ?_
          refine OR.val rfl rfl (EX.assign rfl) ?_
          refine OR.nil ?_
          refine KR.ret (retR2 (.inr rfl) rfl rfl rfl rfl rfl ?_)
          rw [hbad (by omega)]
          exact ⟨rfl, hx1.trans hx4⟩
        · refine KR.skip (KR.leave (KR.region ?_))
          refine OR.val rfl rfl (by first | exact EX.addN (b := 1) (m := 9223372036854775807) rfl rfl rfl (by omega) | exact EX.addZ (m := 9223372036854775807) rfl rfl rfl rfl (by omega)) ?_
          refine OR.val rfl rfl (EX.move rfl) ?_
          refine OR.nil ?_
          refine KR.back1 (i + 1) ⟨rfl, rfl, rfl, rfl, rfl, trivial⟩ rfl ?_ (by omega)
          refine ⟨by omega, fun c hc => ?_⟩
          rw [List.take_add_one, List.getElem?_eq_getElem hlt] at hc
          rcases List.mem_append.1 hc with hc | hc
          · exact hok c hc
          · simp only [Option.toList_some, List.mem_singleton] at hc
            subst hc
            omega
    · have hfit : fits s := by
        rw [List.take_of_length_le (by omega)] at hok
        exact hok
      refine KR.exit rfl (KR.seq (KR.region ?_))
      refine OR.allocB (l := [.bool false]) rfl rfl ti4 rfl ?_
      rintro bb w5 hge5 hb5 hx5
      have hbb : w1.heap.size ≤ bb := by have := hx4.size; omega
      refine OR.storeB rfl ti4 rfl rfl (by first | rfl | assumption | exact Own.one (by assumption)) (hb5) (by simp) ?_
      rintro w6 hb6 hm6
      refine OR.nil ?_
      refine KR.seq (KR.label (KR.seq (KR.seq (KR.region ?_))))
      refine OR.val rfl rfl (EX.move rfl) ?_
      refine OR.nil ?_
      refine KR.block ?_
      simp only [List.set_cons_zero] at hb6
      have hx6 : Ext w1 w6 := below_mo (hx4.trans hx5) hm6 (hx4.trans hx5).size (fun k hk => by simp at hk; subst hk; have := hx4.size; omega)
      have ho6 : Bk w6 ob 54 [.slice (some ⟨gb, 0, none⟩) 0 0] := (ho4.ext hx5).mo hm6 (by simp; exact (ho4.ext hx5).ne hb5 (by decide))
      have hown6 : Own w6 w1.heap.size 9 1 (.slice (some ⟨gb, 0, none⟩) 0 0) 0 (txtsV []) := (hown4.ext hx5).mo hm6 (fun k hk => by
        have := ((hg2.ext hx3).mo hm4 (by simp; exact (hg2.ext hx3).ne ho3 (by decide))).ext hx5 |>.ne hb5 (by decide)
        simp [Value.ownBlock] at hk
        subst hk
        simpa using this)
      have hsb1 : sb < w6.heap.size := by have := hs1.lt; have := hx6.size; omega
      refine KR.rangeF rfl (Nat.le_add_left _ _) Tryz.func78 (by kernel_rfl) rfl rfl rfl (fun _ _ => rfl) (by simp) (iter_s sb s hs w6 (hs1.ext hx6)) (fun h k => k.trans h) (fun W l o o' hl h _ _ => World.putObj_heap_other (by omega)) (fun pre W => ∃ v, Bk W ob 54 [v] ∧ Own W w1.heap.size 9 1 v (kept pre).length (txtsV (kept pre)) ∧ Bk W bb 4 [.bool false] ∧ Ext w1 W ∧ dd ∉ pre) (fun c pre W => ∃ p0, c = .exit 2 ∧ pre = p0 ++ [dd] ∧ ∃ v, Bk W ob 54 [v] ∧ Own W w1.heap.size 9 1 v (kept p0).length (txtsV (kept p0)) ∧ Bk W bb 4 [.bool true] ∧ Ext w1 W) (fun pre A B row h hg hr => let ⟨v, h1, h2, h3, h4, h5⟩ := h; ⟨v, h1.turned hg hr, h2.turned hg hr, h3.turned hg hr, h4.turned hx6.size hg hr, h5⟩) (fun c pre A B row h hg hr => let ⟨p0, e1, e2, v, h1, h2, h3, h4⟩ := h; ⟨p0, e1, e2, v, h1.turned hg hr, h2.turned hg hr, h3.turned hg hr, h4.turned hx6.size hg hr⟩) (⟨_, ho6, hown6, hb6, hx6, by simp⟩) ?_ ?_ ?_
      · rintro l pre x W ⟨v, h1, h2, h3, h4, h5⟩ hlen
        have hsW : Bk W sb 9 [str s] := hs1.ext h4
        have hkl : (kept pre).length ≤ pre.length := List.length_filter_le _ _
        have stay : keepB x = false → x ≠ dd → (KeepsOthers W W ∧ KpS sb W W ∧ ∃ v, Bk W ob 54 [v] ∧ Own W w1.heap.size 9 1 v (kept (pre ++ [x])).length (txtsV (kept (pre ++ [x]))) ∧ Bk W bb 4 [.bool false] ∧ Ext w1 W ∧ dd ∉ pre ++ [x]) := fun hk hd => by
          rw [kept_snoc, hk, if_neg (by simp)]
          exact ⟨KeepsOthers.refl W, rfl, v, h1, h2, h3, h4, by simp [h5, Ne.symm hd]⟩
        refine KR.block (KR.seq (KR.seq (KR.region ?_)))
        refine OR.val rfl rfl (EX.move rfl) ?_
        refine OR.nil ?_
        refine KR.block (KR.seq (KR.seq (KR.region ?_)))
        refine OR.val rfl rfl (EX.eqlS (r := []) rfl rfl) ?_
        refine OR.val rfl rfl (EX.assign rfl) ?_
        refine OR.nil ?_
        refine KR.condD rfl (fun hx0 => ?_) (fun hx0 => ?_)
        · refine KR.as 31 (.bool true) rfl (congrArg Value.bool (decide_eq_true (hx0))) ?_
          refine KR.skip (KR.condT rfl (KR.exit rfl ?_))
          refine KR.done ?_
          exact fun _ _ => stay (by rw [hx0]; rfl) (by rw [hx0]; decide)
        · refine KR.region ?_
          refine OR.val rfl rfl (EX.eqlS (r := [46]) rfl rfl) ?_
          refine OR.val rfl rfl (EX.assign rfl) ?_
          refine OR.nil ?_
          refine KR.condD rfl (fun hx1 => ?_) (fun hx1 => ?_)
          · refine KR.exit rfl ?_
            refine KR.done ?_
            exact fun _ _ => stay (by rw [hx1]; rfl) (by rw [hx1]; decide)
          · refine KR.seq (KR.region ?_)
            refine OR.val rfl rfl (EX.eqlS (r := [46, 46]) rfl rfl) ?_
            refine OR.val rfl rfl (EX.assign rfl) ?_
            refine OR.nil ?_
            refine KR.condD rfl (fun hx2 => ?_) (fun hx2 => ?_)
            · refine KR.seq (KR.region ?_)
              refine OR.storeB rfl ti4 rfl rfl (by first | rfl | assumption | exact Own.one (by assumption)) (h3) (by simp) ?_
              rintro W2 hb2 hm2
              refine OR.nil ?_
              refine KR.exitOut rfl ?_
              simp only [List.set_cons_zero] at hb2
              exact fun _ _ => ⟨hm2.keeps (fun k hk => by simp at hk; subst hk; exact ⟨_, _, h3⟩), pre, rfl, by rw [hx2]; rfl, v, h1.mo hm2 (by simp; exact h1.ne h3 (by decide)), h2.mo hm2 (fun k hk => by simp; exact fun q => h2.ne h3 (by decide) k hk q.symm), hb2, below_mo h4 hm2 h4.size (fun k hk => by simp at hk; subst hk; have := hx4.size; have := hx5.size; omega)⟩
            · have hkx : keepB x = true := by simp [keepB, hx0, hx1]
              refine KR.skip (KR.leave (KR.region ?_))
              refine OR.val rfl rfl (EX.load Tryz.underlying54 rfl rfl (h1.cell_of rfl)) ?_
              refine OR.val rfl rfl (EX.move rfl) ?_
              refine OR.push rfl rfl (fun _ => rfl) rfl Tryz.underlying54 ti9 rfl rfl (fun _ => rfl) rfl (h4) (h2) (by simp only [maxLen]; omega) (by omega) ?_
              rintro _ v2 W2 hown2 hx2' hg2' ho2
              have hm2 : Mo W W2 v.ownBlock.toList := Mo.grown hg2' (fun k e => by rw [e]; simp)
              have nb : ob ∉ v.ownBlock.toList := fun q => h2.ne h1 (by decide) ob (by simpa using q) rfl
              have nbb : bb ∉ v.ownBlock.toList := fun q => h2.ne h3 (by decide) bb (by simpa using q) rfl
              have ho2b := h1.mo hm2 nb
              have hb2b := h3.mo hm2 nbb
              refine OR.storeB rfl ti54 rfl rfl (by first | rfl | assumption | exact Own.one (by assumption)) (ho2b) (by simp) ?_
              rintro W3 ho3' hm3
              refine OR.nil ?_
              refine KR.leave ?_
              simp only [List.set_cons_zero] at ho3'
              refine KR.done ?_
              have hown3 : Own W3 w1.heap.size 9 1 v2 (kept (pre ++ [x])).length (txtsV (kept (pre ++ [x]))) := by
                rw [kept_snoc, if_pos hkx, List.length_append, txtsV_snoc]
                exact hown2.mo hm3 (fun k hk => by simp; exact fun q => hown2.ne ho2b (by decide) k hk q.symm)
              have hx3' : Ext w1 W3 := below_mo hx2' hm3 hx2'.size (fun k hk => by simp at hk; omega)
              have hsW3 : Bk W3 sb 9 [str s] := hs1.ext hx3'
              refine fun _ _ => ⟨(hm2.keeps fun k hk => ?_).trans (hm3.keeps fun k hk => ?_), ?_, v2, ho3', hown3, hb2b.mo hm3 (by simp; exact hb2b.ne ho2b (by decide)), hx3', by simp only [List.mem_append, List.mem_singleton, not_or]; exact ⟨h5, fun q => hx2 q.symm⟩⟩
              · obtain ⟨_, l, hb⟩ := h2.blkT k (by simpa using hk)
                exact ⟨_, _, hb⟩
              · simp at hk
                subst hk
                exact ⟨_, _, ho2b⟩
              · show W3.heap[sb]? = W.heap[sb]?
                exact (hx3'.block sb hs1.lt).trans (h4.block sb hs1.lt).symm
      · rintro D xs W hD rfl ⟨v, h1, h2, h3, h4, h5⟩ hK
        obtain ⟨A, c, rfl, hc, hsl⟩ := h2.slice
        have hwt : wt (kept (parts s)) ≤ 140737488355328 := by have q1 := wt_filter keepB (parts s); have q2 := wt_parts s; unfold kept; omega
        have hDl : D < W.heap.size := (Array.getElem?_eq_some_iff.1 hK).1
        refine KR.leave (KR.seq (KR.region ?_))
        refine OR.val rfl rfl (EX.load Tryz.underlying54 rfl rfl (h1.cell_of rfl)) ?_
        refine OR.call rfl rfl rfl (join_c A c (kept (parts s)) _ W hsl (Nat.le_refl _) hc hwt) ?_
        rintro _ W2 ⟨rfl, hxW⟩
        refine OR.val rfl rfl (EX.assign rfl) ?_
        refine OR.nil ?_
        refine KR.seq (KR.seq ?_)
        have hK2 : W2.heap[D]? = some (.deferred (some [])) := (hxW.block D hDl).trans hK
        have hxe : Ext w (W2.putObj D (.deferred none)) := Ext.putObj ((hx1.trans h4).trans hxW) (by have := hx1.size; have := hx6.size; omega) _
        have h3' := h3.ext hxW
        refine KR.region ?_
        refine OR.val rfl rfl (EX.load Tryz.underlying4 rfl rfl (h3'.cell_of rfl)) ?_
        refine OR.val rfl rfl (EX.move rfl) ?_
        refine OR.val rfl rfl (EX.move rfl) ?_
        refine OR.val rfl rfl (EX.eqlS (r := []) rfl rfl) ?_
        refine OR.val rfl rfl (EX.pickF rfl rfl) ?_
        refine OR.val rfl rfl (EX.move rfl) ?_
        refine OR.splitD 47 rfl (fun j1 => ?_) (fun j1 => ?_)
        · refine OR.pass rfl rfl ?_
          refine OR.pass rfl rfl ?_
          refine OR.pass rfl rfl ?_
          refine OR.val rfl rfl (EX.pickT rfl rfl) ?_
          refine OR.nil ?_
          refine KR.condT rfl (KR.seq (KR.region ?_))
          refine OR.val rfl rfl (EX.assign rfl) ?_
          refine OR.val rfl rfl (EX.assign rfl) ?_
          refine OR.nil ?_
          refine KR.ret (retM2 (.inr rfl) rfl rfl (hK2) rfl rfl rfl ?_)
          have e : cleanP s = ([], 140) := by unfold cleanP; rw [if_neg (fun q => q.2.2.1 j1)]
          rw [e]
          exact ⟨rfl, hxe⟩
        · refine OR.val rfl rfl (EX.move rfl) ?_
          refine OR.val rfl rfl (EX.lenS Tryz.underlying9 rfl) ?_
          refine OR.val rfl rfl (by first | exact EX.gtrN (b := 120) rfl rfl | exact EX.gtrZ rfl rfl) ?_
          refine OR.val rfl rfl (EX.pickF rfl rfl) ?_
          refine OR.nil ?_
          refine KR.condD rfl (fun j2 => ?_) (fun j2 => ?_)
          · refine KR.seq (KR.region ?_)
            refine OR.val rfl rfl (EX.assign rfl) ?_
            refine OR.val rfl rfl (EX.assign rfl) ?_
            refine OR.nil ?_
            refine KR.ret (retM2 (.inr rfl) rfl rfl (hK2) rfl rfl rfl ?_)
            have e : cleanP s = ([], 140) := by unfold cleanP; rw [if_neg (fun q => by have := q.2.2.2; omega)]
            rw [e]
            exact ⟨rfl, hxe⟩
          · refine KR.skip (KR.seq (KR.region ?_))
            refine OR.val rfl rfl (EX.move rfl) ?_
            refine OR.val rfl rfl (EX.assign rfl) ?_
            refine OR.val rfl rfl (EX.assign rfl) ?_
            refine OR.nil ?_
            refine KR.ret (retM2 (.inr rfl) rfl rfl (hK2) rfl rfl rfl ?_)
            have e : cleanP s = (joinS (kept (parts s)), 0) := by unfold cleanP; rw [if_pos ⟨hfit, h5, j1, by omega⟩]
            rw [e]
            exact ⟨rfl, hxe⟩
      · rintro D c pre W hD hpre ⟨p0, rfl, rfl, v, h1, h2, h3, h4⟩ hK
        obtain ⟨A, c, rfl, hc, hsl⟩ := h2.slice
        have hwt : wt (kept p0) ≤ 140737488355328 := by
          have q1 := wt_filter keepB p0
          have q2 := wt_parts s
          obtain ⟨r, hr⟩ := hpre
          rw [← hr, wt_append, wt_append] at q2
          unfold kept
          omega
        have e : cleanP s = ([], 140) := by
          unfold cleanP
          rw [if_neg]
          rintro ⟨_, h, _⟩
          exact h (hpre.subset (by simp))
        have hDl : D < W.heap.size := (Array.getElem?_eq_some_iff.1 hK).1
        refine KR.exit rfl (KR.seq (KR.region ?_))
        refine OR.val rfl rfl (EX.load Tryz.underlying54 rfl rfl (h1.cell_of rfl)) ?_
        refine OR.call rfl rfl rfl (join_c A c (kept p0) _ W hsl (Nat.le_refl _) hc hwt) ?_
        rintro _ W2 ⟨rfl, hxW⟩
        refine OR.val rfl rfl (EX.assign rfl) ?_
        refine OR.nil ?_
        refine KR.seq (KR.seq ?_)
        have hK2 : W2.heap[D]? = some (.deferred (some [])) := (hxW.block D hDl).trans hK
        have hxe : Ext w (W2.putObj D (.deferred none)) := Ext.putObj ((hx1.trans h4).trans hxW) (by have := hx1.size; have := hx6.size; omega) _
        have h3' := h3.ext hxW
        refine KR.region ?_
        refine OR.val rfl rfl (EX.load Tryz.underlying4 rfl rfl (h3'.cell_of rfl)) ?_
        refine OR.val rfl rfl (EX.move rfl) ?_
        refine OR.pass rfl rfl ?_
        refine OR.pass rfl rfl ?_
        refine OR.val rfl rfl (EX.pickT rfl rfl) ?_
        refine OR.val rfl rfl (EX.move rfl) ?_
        refine OR.pass rfl rfl ?_
        refine OR.pass rfl rfl ?_
        refine OR.pass rfl rfl ?_
        refine OR.val rfl rfl (EX.pickT rfl rfl) ?_
        refine OR.nil ?_
        refine KR.condT rfl (KR.seq (KR.region ?_))
        refine OR.val rfl rfl (EX.assign rfl) ?_
        refine OR.val rfl rfl (EX.assign rfl) ?_
        refine OR.nil ?_
        refine KR.ret (retM2 (.inr rfl) rfl rfl (hK2) rfl rfl rfl ?_)
        rw [e]
        exact ⟨rfl, hxe⟩
end Go.Proofs.YtlpnoogcdnfllaaGreatDoor
namespace Go.Proofs.YtlpnoogcdnfllaaGreatDoor
open Go.RowKit
def GW (P : Program) (R : Act → World → Prop) (ops : Array Oper) (S : World → Prop) (fuel : Nat) (listed : Array Bool) (k : List KI) (n : Nat) (σ : Sig) (w : World) : Prop :=
  ∀ a, Fr n σ a → wpAnyH P .any ops (pst P R k) S fuel listed a w
section
variable {P : Program} {R : Act → World → Prop} {ops : Array Oper} {S : World → Prop} {fuel : Nat} {listed : Array Bool} {k : List KI} {n : Nat} {σ : Sig} {w w' : World}
theorem pst_panic {c : List PanicEntry} : ∀ (k : List KI) (a : Act) (w : World), pst P R k (.panic c) a w → False
  | [], _, _, h => h
  | .code _ :: k, a, w, h => pst_panic k a w h
  | .blk _ :: k, a, w, h => pst_panic k a w h
  | .asr _ :: k, a, w, h => pst_panic k a w h
theorem KW.regionG {id N : Nat} {l : List Oper} (S : World → Prop) (hm : P.follows .mixedOrders = true) (hN : l.toArray.size = N) (h : GW P R l.toArray S N (Array.replicate N false) k n σ w.drew) : KW P R (.code (.region id l.toArray true) :: k) n σ w := fun a ha => by
  subst hN
  exact wp_region_held hm (h a ha)
theorem GW.val (i : Nat) {d : Nat} {op : Op} {ty : TypeId} {pos : String} {after : Array Edge} {g : Option (Nat × Bool)} {v : Value} (hi : ops[i]? = some ⟨some d, op, ty, pos, after, g⟩) (hs : Region.noSelect ops = true) (hf : Region.free .any ops listed i = true) (hr : (Region.ready .any ops listed).contains i = true)
    (hg : wantS ops σ g = some true) (hd : Nat.blt d n = true) (hS : S w) (he : ∀ w', S w' → EX P n σ op ty w' v w')
    (h : GW P R ops S fuel (listed.setIfInBounds i true) k n ((d, v) :: σ) w) : GW P R ops S (fuel + 1) listed k n σ w := fun a ha =>
  wpAnyH_take hi hs hf hr (fun c a w q => (pst_panic k _ _ q).elim) (.inl ⟨wantS_spec ha (o := ⟨some d, op, ty, pos, after, g⟩) hg, fun w' hw' => he w' hw' a ha _ _ _ _⟩) hS (h _ (ha.put hd v))
theorem GW.pass (i : Nat) {d : Nat} {op : Op} {ty : TypeId} {pos : String} {after : Array Edge} {g : Option (Nat × Bool)} (hi : ops[i]? = some ⟨some d, op, ty, pos, after, g⟩) (hs : Region.noSelect ops = true) (hf : Region.free .any ops listed i = true) (hr : (Region.ready .any ops listed).contains i = true)
    (hg : wantS ops σ g = some false) (hd : Nat.blt d n = true) (hS : S w)
    (h : GW P R ops S fuel (listed.setIfInBounds i true) k n ((d, undef) :: σ) w) : GW P R ops S (fuel + 1) listed k n σ w := fun a ha =>
  wpAnyH_take hi hs hf hr (fun c a w q => (pst_panic k _ _ q).elim) (.inr ⟨wantS_spec ha (o := ⟨some d, op, ty, pos, after, g⟩) hg, rfl⟩) hS (h _ (ha.put hd undef))
theorem GW.sole (i : Nat) {o : Oper} (hi : ops[i]? = some o) (hr : Region.ready .any ops listed = [i]) (hg : wantS ops σ o.guard = some true)
    (h : ∀ a, Fr n σ a → o.wp P a w (fun a' w' => S w' ∧ wpAnyH P .any ops (pst P R k) S fuel (listed.setIfInBounds i true) a' w') (pst P R k)) : GW P R ops S (fuel + 1) listed k n σ w := fun a ha =>
  wpAnyH_all hr (by simp) fun j hj => by
    simp only [List.mem_singleton] at hj
    subst hj
    unfold wpOp
    simp only [hi, wantS_spec ha hg, if_true]
    exact .inl (h a ha)
theorem GW.callE (i : Nat) {d : Nat} {op : Op} {ty : TypeId} {pos : String} {after : Array Edge} {g : Option (Nat × Bool)} {f : FuncId} {args : List Value} {Q : Value → World → Prop} (hi : ops[i]? = some ⟨some d, op, ty, pos, after, g⟩) (hr : Region.ready .any ops listed = [i])
    (hg : wantS ops σ g = some true) (hd : Nat.blt d n = true) (he : EC P n σ op ty w f args.toArray) (hc : Ret P f args w Q)
    (h : ∀ v w', Q v w' → S w' ∧ (S w' → GW P R ops S fuel (listed.setIfInBounds i true) k n ((d, v) :: σ) w')) : GW P R ops S (fuel + 1) listed k n σ w :=
  GW.sole i hi hr hg fun a ha => by
    have h1 := he a ha (some d) pos after g
    unfold Oper.wp
    rw [h1]
    refine hc.2.mono fun e w'' ⟨v, he, q⟩ => ?_
    subst he
    obtain ⟨h2, h3⟩ := h v w'' q
    exact ⟨h2, h3 h2 _ (ha.put hd v)⟩
theorem GW.call (i : Nat) {d : Nat} {f : FuncId} {xs : List Operand} {ats : Array TypeId} {ty : TypeId} {pos : String} {after : Array Edge} {g : Option (Nat × Bool)} {vs : List Value} {Q : Value → World → Prop}
    (hi : ops[i]? = some ⟨some d, .call { callee := .value (.func f), args := xs.toArray, argTypes := ats }, ty, pos, after, g⟩) (hr : Region.ready .any ops listed = [i])
    (hg : wantS ops σ g = some true) (hd : Nat.blt d n = true) (hx : evs σ xs = some vs) (hc : Ret P f vs w Q)
    (h : ∀ v w', Q v w' → S w' ∧ (S w' → GW P R ops S fuel (listed.setIfInBounds i true) k n ((d, v) :: σ) w')) : GW P R ops S (fuel + 1) listed k n σ w := by
  obtain ⟨⟨fn, h1, h2⟩, _⟩ := id hc
  exact GW.callE i hi hr hg hd (EC.go h1 h2 hx) hc h
theorem GW.new (i : Nat) {d : Nat} {op : Op} {ty : TypeId} {pos : String} {after : Array Edge} {g : Option (Nat × Bool)} {v : Value} (hi : ops[i]? = some ⟨some d, op, ty, pos, after, g⟩) (hr : Region.ready .any ops listed = [i])
    (hg : wantS ops σ g = some true) (hd : Nat.blt d n = true) (he : EX P n σ op ty w v w') (h : S w' ∧ (S w' → GW P R ops S fuel (listed.setIfInBounds i true) k n ((d, v) :: σ) w')) : GW P R ops S (fuel + 1) listed k n σ w :=
  GW.sole i hi hr hg fun a ha => by
    have h1 := he a ha (some d) pos after g
    unfold Oper.wp
    rw [h1]
    exact ⟨h.1, h.2 h.1 _ (ha.put hd v)⟩
theorem GW.eff (i : Nat) {op : Op} {ty : TypeId} {pos : String} {after : Array Edge} {g : Option (Nat × Bool)} (hi : ops[i]? = some ⟨none, op, ty, pos, after, g⟩) (hr : Region.ready .any ops listed = [i])
    (hg : wantS ops σ g = some true) (he : EU P n σ op ty w w') (h : S w' ∧ (S w' → GW P R ops S fuel (listed.setIfInBounds i true) k n σ w')) : GW P R ops S (fuel + 1) listed k n σ w :=
  GW.sole i hi hr hg fun a ha => by
    have h1 := he a ha none pos after g
    unfold Oper.wp
    rw [h1]
    exact ⟨h.1, h.2 h.1 _ ha⟩
theorem GW.storeB (i : Nat) {x y : Operand} {T T' ty : TypeId} {pos : String} {after : Array Edge} {g : Option (Nat × Bool)} {b o bs : Nat} {v z : Value} {l : List Value} (hi : ops[i]? = some ⟨none, .store T x y, ty, pos, after, g⟩) (hr : Region.ready .any ops listed = [i])
    (hg : wantS ops σ g = some true) (ht : TI P T z 1 bs) (hx : ev σ x = some (.pointer (some ⟨b, o, none⟩))) (hy : ev σ y = some v) (h1 : v.oneCell' = true) (hb : Bk w b T' l) (hlt : o < l.length)
    (h : ∀ w', Bk w' b T' (l.set o v) → Mo w w' [b] → S w' ∧ (S w' → GW P R ops S fuel (listed.setIfInBounds i true) k n σ w')) : GW P R ops S (fuel + 1) listed k n σ w :=
  GW.eff i hi hr hg (EU.storeBk ht hx hy h1 hb hlt) (h _ (hb.set o v) (Mo.set w b o v))
theorem GW.storeS (i : Nat) {x y : Operand} {T T' ty : TypeId} {pos : String} {after : Array Edge} {g : Option (Nat × Bool)} {b o s bs : Nat} {z : Value} {l vs : List Value} (hi : ops[i]? = some ⟨none, .store T x y, ty, pos, after, g⟩) (hr : Region.ready .any ops listed = [i])
    (hg : wantS ops σ g = some true) (ht : TI P T z s bs) (hx : ev σ x = some (.pointer (some ⟨b, o, none⟩))) (hy : ev σ y = some (.agg vs.toArray)) (hs : vs.length = s) (h1 : vs.all (·.oneCell') = true) (hb : Bk w b T' l) (hlt : o + vs.length ≤ l.length)
    (h : ∀ w', Bk w' b T' (l.take o ++ vs ++ l.drop (o + vs.length)) → Mo w w' [b] → S w' ∧ (S w' → GW P R ops S fuel (listed.setIfInBounds i true) k n σ w')) : GW P R ops S (fuel + 1) listed k n σ w := by
  obtain ⟨w', he, hb', hg'⟩ := EU.storeA (P := P) (n := n) (ty := ty) ht hx hy hs h1 hb hlt
  exact GW.eff i hi hr hg he (h w' hb' (Mo.grown hg' (fun k e => by simp at e; simp [e])))
def GO (P : Program) (R : Act → World → Prop) (ops : Array Oper) (S : World → Prop) (fuel : Nat) (listed : Array Bool) (k : List KI) (n : Nat) (σ : Sig) (w : World) (i : Nat) : Prop :=
  ∀ a, Fr n σ a → wpOp P ops (pst P R k) i (fun a' w' => S w' ∧ wpAnyH P .any ops (pst P R k) S fuel (listed.setIfInBounds i true) a' w') a w
theorem GW.two (i j : Nat) (hr : Region.ready .any ops listed = [i, j]) (h1 : GO P R ops S fuel listed k n σ w i) (h2 : GO P R ops S fuel listed k n σ w j) : GW P R ops S (fuel + 1) listed k n σ w := fun a ha =>
  wpAnyH_all hr (by simp) fun q hq => by
    simp only [List.mem_cons, List.not_mem_nil, or_false] at hq
    rcases hq with rfl | rfl
    · exact h1 a ha
    · exact h2 a ha
theorem wpAnyH_strong {S' : World → Prop} {Q : Exit → Act → World → Prop} (hS : ∀ w, S' w → S w) : ∀ (fuel : Nat) (listed : Array Bool) (a : Act) (w : World), wpAnyH P .any ops Q S' fuel listed a w → wpAnyH P .any ops Q S fuel listed a w
  | 0, _, _, _, h => h
  | fuel + 1, _, _, _, h => ⟨h.1, fun i hi => wpOp_mono (fun a' w' h' => ⟨hS _ h'.1, wpAnyH_strong hS fuel _ a' w' h'.2⟩) (h.2 i hi)⟩
theorem GW.strong (S' : World → Prop) (hS : ∀ w, S' w → S w) (h : GW P R ops S' fuel listed k n σ w) : GW P R ops S fuel listed k n σ w := fun a ha => wpAnyH_strong hS fuel listed a w (h a ha)
theorem GW.as (t : Nat) (v' : Value) {v : Value} (ht : lk σ t = some v) (e : v = v') (h : GW P R ops S fuel listed k n ((t, v') :: σ) w) : GW P R ops S fuel listed k n σ w := fun a ha =>
  OW.as (P := P) (R := R) (ops := #[]) (l := []) (k := [.asr fun a w => wpAnyH P .any ops (pst P R k) S fuel listed a w]) t v' ht e (fun a ha => h a ha) a ha
theorem GO.sole (i : Nat) {o : Oper} (hi : ops[i]? = some o) (hg : wantS ops σ o.guard = some true)
    (h : ∀ a, Fr n σ a → o.wp P a w (fun a' w' => S w' ∧ wpAnyH P .any ops (pst P R k) S fuel (listed.setIfInBounds i true) a' w') (pst P R k)) : GO P R ops S fuel listed k n σ w i := fun a ha => by
  unfold wpOp
  simp only [hi, wantS_spec ha hg, if_true]
  exact .inl (h a ha)
theorem GO.callE (i : Nat) {d : Nat} {op : Op} {ty : TypeId} {pos : String} {after : Array Edge} {g : Option (Nat × Bool)} {f : FuncId} {args : List Value} {Q : Value → World → Prop} (hi : ops[i]? = some ⟨some d, op, ty, pos, after, g⟩)
    (hg : wantS ops σ g = some true) (hd : Nat.blt d n = true) (he : EC P n σ op ty w f args.toArray) (hc : Ret P f args w Q)
    (h : ∀ v w', Q v w' → S w' ∧ (S w' → GW P R ops S fuel (listed.setIfInBounds i true) k n ((d, v) :: σ) w')) : GO P R ops S fuel listed k n σ w i :=
  GO.sole i hi hg fun a ha => by
    have h1 := he a ha (some d) pos after g
    unfold Oper.wp
    rw [h1]
    refine hc.2.mono fun e w'' ⟨v, he, q⟩ => ?_
    subst he
    obtain ⟨h2, h3⟩ := h v w'' q
    exact ⟨h2, h3 h2 _ (ha.put hd v)⟩
theorem GO.call (i : Nat) {d : Nat} {f : FuncId} {xs : List Operand} {ats : Array TypeId} {ty : TypeId} {pos : String} {after : Array Edge} {g : Option (Nat × Bool)} {vs : List Value} {Q : Value → World → Prop}
    (hi : ops[i]? = some ⟨some d, .call { callee := .value (.func f), args := xs.toArray, argTypes := ats }, ty, pos, after, g⟩)
    (hg : wantS ops σ g = some true) (hd : Nat.blt d n = true) (hx : evs σ xs = some vs) (hc : Ret P f vs w Q)
    (h : ∀ v w', Q v w' → S w' ∧ (S w' → GW P R ops S fuel (listed.setIfInBounds i true) k n ((d, v) :: σ) w')) : GO P R ops S fuel listed k n σ w i := by
  obtain ⟨⟨fn, h1, h2⟩, _⟩ := id hc
  exact GO.callE i hi hg hd (EC.go h1 h2 hx) hc h
theorem GO.new (i : Nat) {d : Nat} {op : Op} {ty : TypeId} {pos : String} {after : Array Edge} {g : Option (Nat × Bool)} {v : Value} (hi : ops[i]? = some ⟨some d, op, ty, pos, after, g⟩)
    (hg : wantS ops σ g = some true) (hd : Nat.blt d n = true) (he : EX P n σ op ty w v w') (h : S w' ∧ (S w' → GW P R ops S fuel (listed.setIfInBounds i true) k n ((d, v) :: σ) w')) : GO P R ops S fuel listed k n σ w i :=
  GO.sole i hi hg fun a ha => by
    have h1 := he a ha (some d) pos after g
    unfold Oper.wp
    rw [h1]
    exact ⟨h.1, h.2 h.1 _ (ha.put hd v)⟩
theorem GO.eff (i : Nat) {op : Op} {ty : TypeId} {pos : String} {after : Array Edge} {g : Option (Nat × Bool)} (hi : ops[i]? = some ⟨none, op, ty, pos, after, g⟩)
    (hg : wantS ops σ g = some true) (he : EU P n σ op ty w w') (h : S w' ∧ (S w' → GW P R ops S fuel (listed.setIfInBounds i true) k n σ w')) : GO P R ops S fuel listed k n σ w i :=
  GO.sole i hi hg fun a ha => by
    have h1 := he a ha none pos after g
    unfold Oper.wp
    rw [h1]
    exact ⟨h.1, h.2 h.1 _ ha⟩
theorem GO.storeB (i : Nat) {x y : Operand} {T T' ty : TypeId} {pos : String} {after : Array Edge} {g : Option (Nat × Bool)} {b o bs : Nat} {v z : Value} {l : List Value} (hi : ops[i]? = some ⟨none, .store T x y, ty, pos, after, g⟩)
    (hg : wantS ops σ g = some true) (ht : TI P T z 1 bs) (hx : ev σ x = some (.pointer (some ⟨b, o, none⟩))) (hy : ev σ y = some v) (h1 : v.oneCell' = true) (hb : Bk w b T' l) (hlt : o < l.length)
    (h : ∀ w', Bk w' b T' (l.set o v) → Mo w w' [b] → S w' ∧ (S w' → GW P R ops S fuel (listed.setIfInBounds i true) k n σ w')) : GO P R ops S fuel listed k n σ w i :=
  GO.eff i hi hg (EU.storeBk ht hx hy h1 hb hlt) (h _ (hb.set o v) (Mo.set w b o v))
theorem GO.storeS (i : Nat) {x y : Operand} {T T' ty : TypeId} {pos : String} {after : Array Edge} {g : Option (Nat × Bool)} {b o s bs : Nat} {z : Value} {l vs : List Value} (hi : ops[i]? = some ⟨none, .store T x y, ty, pos, after, g⟩)
    (hg : wantS ops σ g = some true) (ht : TI P T z s bs) (hx : ev σ x = some (.pointer (some ⟨b, o, none⟩))) (hy : ev σ y = some (.agg vs.toArray)) (hs : vs.length = s) (h1 : vs.all (·.oneCell') = true) (hb : Bk w b T' l) (hlt : o + vs.length ≤ l.length)
    (h : ∀ w', Bk w' b T' (l.take o ++ vs ++ l.drop (o + vs.length)) → Mo w w' [b] → S w' ∧ (S w' → GW P R ops S fuel (listed.setIfInBounds i true) k n σ w')) : GO P R ops S fuel listed k n σ w i := by
  obtain ⟨w', he, hb', hg'⟩ := EU.storeA (P := P) (n := n) (ty := ty) ht hx hy hs h1 hb hlt
  exact GO.eff i hi hg he (h w' hb' (Mo.grown hg' (fun k e => by simp at e; simp [e])))
theorem GW.allocB (i : Nat) {d : Nat} {T ty : TypeId} {pos : String} {after : Array Edge} {g : Option (Nat × Bool)} {z : Value} {s bs : Nat} {l : List Value} (hi : ops[i]? = some ⟨some d, .alloc T, ty, pos, after, g⟩) (hr : Region.ready .any ops listed = [i]) (hg : wantS ops σ g = some true) (hd : Nat.blt d n = true) (ht : TI P T z s bs) (hl : z.cells.toList = l)
    (h : ∀ b w', w.heap.size ≤ b → Bk w' b T l → Ext w w' → S w' ∧ (S w' → GW P R ops S fuel (listed.setIfInBounds i true) k n ((d, .pointer (some ⟨b, 0, none⟩)) :: σ) w')) : GW P R ops S (fuel + 1) listed k n σ w :=
  GW.new i hi hr hg hd (EX.alloc ht hl) (h _ _ (Nat.le_refl _) (Bk.new w T l) (Ext.alloc w _))
theorem GW.buildB (i : Nat) (len : Nat) {d : Nat} {T e ty : TypeId} {pos : String} {after : Array Edge} {g : Option (Nat × Bool)} {z : Value} {bs : Nat} {parts : Array (Nat × Operand)} {vs : List Value} (hi : ops[i]? = some ⟨some d, .buildSlice T len parts, ty, pos, after, g⟩) (hr : Region.ready .any ops listed = [i]) (hg : wantS ops σ g = some true) (hd : Nat.blt d n = true) (ht : P.underlying T = some (.slice e)) (hti : TI P e z 1 bs) (hz1 : z.oneCell' = true)
    (hv : evs σ (parts.toList.map (·.2)) = some vs) (hp : parts.toList.map (·.1) = List.range' 0 parts.toList.length) (hl : vs.length = len) (h1 : vs.all (·.oneCell') = true) (hlen : len ≤ 16777216)
    (h : ∀ b w', w.heap.size ≤ b → Bk w' b e vs → Ext w w' → S w' ∧ (S w' → GW P R ops S fuel (listed.setIfInBounds i true) k n ((d, .slice (some ⟨b, 0, none⟩) len len) :: σ) w')) : GW P R ops S (fuel + 1) listed k n σ w :=
  GW.new i hi hr hg hd (EX.buildSlice len ht hti hz1 hv hp hl h1 hlen) (h _ _ (Nat.le_refl _) (Bk.new w e vs) (Ext.alloc w _))
theorem GO.allocB (i : Nat) {d : Nat} {T ty : TypeId} {pos : String} {after : Array Edge} {g : Option (Nat × Bool)} {z : Value} {s bs : Nat} {l : List Value} (hi : ops[i]? = some ⟨some d, .alloc T, ty, pos, after, g⟩) (hg : wantS ops σ g = some true) (hd : Nat.blt d n = true) (ht : TI P T z s bs) (hl : z.cells.toList = l)
    (h : ∀ b w', w.heap.size ≤ b → Bk w' b T l → Ext w w' → S w' ∧ (S w' → GW P R ops S fuel (listed.setIfInBounds i true) k n ((d, .pointer (some ⟨b, 0, none⟩)) :: σ) w')) : GO P R ops S fuel listed k n σ w i :=
  GO.new i hi hg hd (EX.alloc ht hl) (h _ _ (Nat.le_refl _) (Bk.new w T l) (Ext.alloc w _))
theorem GO.buildB (i : Nat) (len : Nat) {d : Nat} {T e ty : TypeId} {pos : String} {after : Array Edge} {g : Option (Nat × Bool)} {z : Value} {bs : Nat} {parts : Array (Nat × Operand)} {vs : List Value} (hi : ops[i]? = some ⟨some d, .buildSlice T len parts, ty, pos, after, g⟩) (hg : wantS ops σ g = some true) (hd : Nat.blt d n = true) (ht : P.underlying T = some (.slice e)) (hti : TI P e z 1 bs) (hz1 : z.oneCell' = true)
    (hv : evs σ (parts.toList.map (·.2)) = some vs) (hp : parts.toList.map (·.1) = List.range' 0 parts.toList.length) (hl : vs.length = len) (h1 : vs.all (·.oneCell') = true) (hlen : len ≤ 16777216)
    (h : ∀ b w', w.heap.size ≤ b → Bk w' b e vs → Ext w w' → S w' ∧ (S w' → GW P R ops S fuel (listed.setIfInBounds i true) k n ((d, .slice (some ⟨b, 0, none⟩) len len) :: σ) w')) : GO P R ops S fuel listed k n σ w i :=
  GO.new i hi hg hd (EX.buildSlice len ht hti hz1 hv hp hl h1 hlen) (h _ _ (Nat.le_refl _) (Bk.new w e vs) (Ext.alloc w _))
theorem GW.done (hr : Region.ready .any ops listed = []) (h : KW P R k n σ w) : GW P R ops S fuel listed k n σ w := fun a ha => wpAnyH_done hr (h a ha) fuel
end
end Go.Proofs.YtlpnoogcdnfllaaGreatDoor
namespace Go.Proofs.YtlpnoogcdnfllaaGreatDoor
open Go.RowKit Pth
theorem check_s (s : List UInt8) (hs : s.length ≤ 1000000000000) (w : World) : Ret Tryz.prog 37 [str s] w fun v w' => v = .int .i64 ((checkP s : Nat) : Int) ∧ Ext w w' := by
  refine Ret.enter Tryz.func37 rfl Tryz.ntmps37 (by kernel_rfl) rfl ?_
  refine KW.seq (KW.region ?_)
  refine OW.val rfl rfl (EX.assign rfl) ?_
  refine OW.nil ?_
  refine KW.seq (KW.seq (KW.region ?_))
  refine OW.val rfl rfl (EX.move rfl) ?_
  refine OW.call rfl rfl rfl (clean_s s hs w) ?_
  rintro _ w1 ⟨rfl, hx⟩
  refine OW.val rfl rfl (EX.move rfl) ?_
  refine OW.val rfl rfl (EX.extract rfl rfl) ?_
  refine OW.val rfl rfl (EX.extract rfl rfl) ?_
  refine OW.val rfl rfl (EX.assign rfl) ?_
  refine OW.val rfl rfl (EX.assign rfl) ?_
  refine OW.nil ?_
  refine KW.seq ?_
  rcases hc : cleanP s with ⟨q, e⟩
  refine KW.region ?_
  refine OW.val rfl rfl (EX.move rfl) ?_
  refine OW.val rfl rfl (by first | exact EX.neqN (b := 0) rfl rfl | exact EX.neqZ rfl rfl) ?_
  refine OW.val rfl rfl (EX.move rfl) ?_
  refine OW.splitD 12 rfl (fun h1 => ?_) (fun h1 => ?_)
  · have h : checkP s = 140 := by unfold checkP; rw [hc, if_neg (by simp only [Prod.mk.injEq]; omega)]
    refine OW.pass rfl rfl ?_
    refine OW.pass rfl rfl ?_
    refine OW.pass rfl rfl ?_
    refine OW.val rfl rfl (EX.pickT rfl rfl) ?_
    refine OW.nil ?_
    refine KW.condT rfl (KW.seq (KW.region ?_))
    refine OW.val rfl rfl (EX.assign rfl) ?_
    refine OW.nil ?_
    refine KW.ret (ret1 rfl rfl ?_)
    rw [h]
    exact ⟨rfl, hx⟩
  · refine OW.val rfl rfl (EX.move rfl) ?_
    refine OW.val rfl rfl (EX.move rfl) ?_
    refine OW.val rfl rfl (EX.neqS rfl rfl) ?_
    refine OW.val rfl rfl (EX.pickF rfl rfl) ?_
    refine OW.nil ?_
    refine KW.condD rfl (fun h2 => ?_) (fun h2 => ?_)
    · have h : checkP s = 140 := by unfold checkP; rw [hc, if_neg (by simp only [Prod.mk.injEq]; exact fun q => h2 q.1)]
      refine KW.seq (KW.region ?_)
      refine OW.val rfl rfl (EX.assign rfl) ?_
      refine OW.nil ?_
      refine KW.ret (ret1 rfl rfl ?_)
      rw [h]
      exact ⟨rfl, hx⟩
    · have h : checkP s = 0 := by unfold checkP; rw [hc, if_pos (by simp only [Prod.mk.injEq]; exact ⟨by simpa using h2, by omega⟩)]
      refine KW.skip (KW.seq (KW.region ?_))
      refine OW.val rfl rfl (EX.assign rfl) ?_
      refine OW.nil ?_
      refine KW.ret (ret1 rfl rfl ?_)
      rw [h]
      exact ⟨rfl, hx⟩
theorem parts_snoc47 : ∀ a : List UInt8, parts (a ++ [47]) = parts a ++ [[]]
  | [] => rfl
  | c :: a => by
    have ih := parts_snoc47 a
    rw [List.cons_append, parts_cons, parts_cons, ih]
    split
    · rfl
    · rcases hp : parts a with _ | ⟨p, r⟩
      · exact absurd hp (parts_ne a)
      · rfl
theorem parts_snoc {c : UInt8} (hc : c ≠ 47) : ∀ a : List UInt8, ∃ l x, parts a = l ++ [x] ∧ parts (a ++ [c]) = l ++ [x ++ [c]]
  | [] => ⟨[], [], rfl, by simp [parts, hc]⟩
  | b :: a => by
    obtain ⟨l, x, h1, h2⟩ := parts_snoc hc a
    rw [List.cons_append, parts_cons, parts_cons, h1, h2]
    split
    · exact ⟨[] :: l, x, rfl, rfl⟩
    · rcases l with _ | ⟨p, l⟩
      · exact ⟨[], b :: x, rfl, rfl⟩
      · exact ⟨(b :: p) :: l, x, rfl, rfl⟩
theorem txtsV_get {l : Txts} {i : Nat} (h : i < l.length) : (txtsV l)[i]? = some (str l[i]) := by simp [txtsV, h]
set_option maxRecDepth 20000 in
theorem rparts_s (s : List UInt8) (hs : s.length ≤ 1000000000000) (w : World) : Ret Tryz.prog 59 [str s] w fun v w' => Own w' w.heap.size 9 1 v (parts s).length (txtsV (parts s)) ∧ Ext w w' := by
  refine Ret.enter Tryz.func59 rfl Tryz.ntmps59 (by kernel_rfl) rfl ?_
  refine KW.seq (KW.region ?_)
  refine OW.val rfl rfl (EX.assign rfl) ?_
  refine OW.nil ?_
  refine KW.seq (KW.region ?_)
  refine OW.buildB 1 rfl rfl Tryz.underlying54 ti9 rfl rfl rfl rfl (by first | rfl | (simp only [List.all_cons, List.all_nil, Bool.and_true, Bool.and_eq_true]; assumption)) (by decide) ?_
  rintro gb w1 hge1 hg1 hx1
  refine OW.val rfl rfl (EX.assign rfl) ?_
  refine OW.nil ?_
  refine KW.seq (KW.seq (KW.region ?_))
  refine OW.val rfl rfl (EX.assign rfl) ?_
  refine OW.nil ?_
  refine KW.block ?_
  have hown1 : Own w1 w.heap.size 9 1 (.slice (some ⟨gb, 0, none⟩) 1 1) 1 (txtsV (parts (s.take 0))) := Own.of_bk (l := [str []]) hg1 hge1 rfl (by decide)
  refine KW.loop3 (fun (i : Nat) (v : Value) (wr : World) => i ≤ s.length ∧ Own wr w.heap.size 9 1 v (parts (s.take i)).length (txtsV (parts (s.take i))) ∧ Ext w wr) (fun (i : Nat) (v : Value) (wr : World) => [(0, str (s)), (3, v), (4, .int .i64 ((i : Nat) : Int))]) (fun (i : Nat) (v : Value) (wr : World) => wr) (fun (i : Nat) (v : Value) (wr : World) => s.length - i) (0) (.slice (some ⟨gb, 0, none⟩) 1 1) (w1) ⟨rfl, rfl, rfl, trivial⟩ rfl ?_ ?_
  · exact ⟨by omega, hown1, hx1⟩
  · rintro i v wr ⟨hi, hown, hx⟩
    refine KW.seq (KW.seq (KW.region ?_))
    refine OW.val rfl rfl (EX.move rfl) ?_
    refine OW.val rfl rfl (EX.move rfl) ?_
    refine OW.val rfl rfl (EX.lenS Tryz.underlying9 rfl) ?_
    refine OW.val rfl rfl (by first | exact EX.lssN rfl rfl | exact EX.lssZ rfl rfl) ?_
    refine OW.nil ?_
    refine KW.condD rfl (fun hlt => ?_) (fun hlt => ?_)
    · have hpl : (parts (s.take i)).length ≤ i + 1 := by have h1 := wt_len (parts (s.take i)); rw [wt_parts, List.length_take] at h1; omega
      have htk : s.take (i + 1) = s.take i ++ [s[i]] := by rw [List.take_add_one, List.getElem?_eq_getElem hlt]; rfl
      refine KW.skip (KW.seq (KW.block (KW.seq (KW.region ?_))))
      refine OW.val rfl rfl (EX.move rfl) ?_
      refine OW.val rfl rfl (EX.move rfl) ?_
      refine OW.val rfl rfl (EX.indexS Tryz.underlying9 rfl rfl (List.getElem?_eq_getElem (by omega))) ?_
      refine OW.val rfl rfl (by first | exact EX.eqlN (b := 47) rfl rfl | exact EX.eqlZ rfl rfl) ?_
      refine OW.nil ?_
      refine KW.condD rfl (fun h47 => ?_) (fun h47 => ?_)
      · have e47 : s[i] = 47 := UInt8.toNat_inj.1 h47
        refine KW.region ?_
        refine OW.val rfl rfl (EX.move rfl) ?_
        refine OW.push rfl rfl (fun _ => rfl) rfl Tryz.underlying54 ti9 rfl rfl (fun _ => rfl) rfl (hx) (hown) (by simp only [maxLen]; omega) (by omega) ?_
        rintro _ v2 w2 hown2 hx2 hg2 ho2
        refine OW.val rfl rfl (EX.assign rfl) ?_
        refine OW.nil ?_
        refine KW.leave (KW.region ?_)
        refine OW.val rfl rfl (EX.move rfl) ?_
        refine OW.val rfl rfl (by first | exact EX.addN (b := 1) (m := 9223372036854775807) rfl rfl rfl (by omega) | exact EX.addZ (m := 9223372036854775807) rfl rfl rfl rfl (by omega)) ?_
        refine OW.val rfl rfl (EX.assign rfl) ?_
        refine OW.nil ?_
        refine KW.back3 (i + 1) (v2) (w2) ⟨rfl, rfl, rfl, trivial⟩ rfl ?_ (by omega)
        refine ⟨by omega, ?_, hx2⟩
        rw [htk, e47, parts_snoc47, List.length_append, txtsV_snoc]
        exact hown2
      · obtain ⟨l, x, e1, e2⟩ := parts_snoc (c := s[i]) (fun q => h47 (by rw [q]; rfl)) (s.take i)
        rw [e1] at hown hpl
        rw [List.length_append, List.length_singleton] at hpl
        obtain ⟨g, cap, rest, rfl, hgB, hg, hgl, hgc, hgm⟩ := hown.blk (by rw [txtsV_length, List.length_append]; simp)
        have hlast : (txtsV (l ++ [x]) ++ rest)[l.length]? = some (str x) := by
          rw [List.getElem?_append_left (by simp [txtsV])]
          simp [txtsV]
        have hxl : x.length ≤ i := by
          have h1 := wt_parts (s.take i)
          rw [e1, wt_append, List.length_take] at h1
          simp only [wt] at h1
          omega
        rw [List.length_append, List.length_singleton] at hown ⊢
        refine KW.regionH 17 (by kernel_rfl) (by kernel_rfl) ?_
        refine HW.val rfl rfl (EX.move rfl) ?_
        refine HW.val rfl rfl (EX.move rfl) ?_
        refine HW.val rfl rfl (EX.lenA Tryz.underlying54 rfl) ?_
        refine HW.val rfl rfl (by first | exact EX.subN (b := 1) (m := 9223372036854775807) rfl rfl rfl (by omega) | exact EX.subZ (m := 9223372036854775807) rfl rfl rfl rfl (by omega)) ?_
        refine HW.val rfl rfl (EX.move rfl) ?_
        refine HW.val rfl rfl (EX.move rfl) ?_
        refine HW.val rfl rfl (EX.lenA Tryz.underlying54 rfl) ?_
        refine HW.val rfl rfl (by first | exact EX.subN (b := 1) (m := 9223372036854775807) rfl rfl rfl (by omega) | exact EX.subZ (m := 9223372036854775807) rfl rfl rfl rfl (by omega)) ?_
        refine HW.val rfl rfl (by first | exact EX.indexAddrS0 Tryz.underlying54 ti9 rfl rfl (by omega) | exact EX.indexAddrS1 Tryz.underlying54 ti9 rfl rfl (by omega)) ?_
        refine HW.val rfl rfl (EX.load Tryz.underlying9 rfl rfl (hg.drew.cell_of (by rw [Nat.add_sub_cancel]; exact hlast))) ?_
        refine HW.val rfl rfl (EX.move rfl) ?_
        refine HW.val rfl rfl (EX.move rfl) ?_
        refine HW.val rfl rfl (EX.move rfl) ?_
        refine HW.val rfl rfl (by first | exact EX.addN (b := 1) (m := 9223372036854775807) rfl rfl rfl (by omega) | exact EX.addZ (m := 9223372036854775807) rfl rfl rfl rfl (by omega)) ?_
        refine HW.val rfl rfl (EX.sliceLH Tryz.underlying9 rfl rfl rfl (by omega)) ?_
        refine HW.val rfl rfl (EX.addS rfl rfl (by first | omega | (simp only [List.length_append, List.length_cons, List.length_nil, List.length_take, List.length_drop, List.length_replicate]; omega))) ?_
        refine HW.val rfl rfl (by first | exact EX.indexAddrS0 Tryz.underlying54 ti9 rfl rfl (by omega) | exact EX.indexAddrS1 Tryz.underlying54 ti9 rfl rfl (by omega)) ?_
        refine HW.tail ?_
        have hgd := hg.drew
        refine OW.storeB rfl ti9 rfl rfl (by first | rfl | assumption | exact Own.one (by assumption)) (hgd) (by rw [List.length_append, txtsV_length, List.length_append, List.length_singleton]; omega) ?_
        rintro w2 hb2 hm2
        refine OW.nil ?_
        refine KW.leave (KW.region ?_)
        refine OW.val rfl rfl (EX.move rfl) ?_
        refine OW.val rfl rfl (by first | exact EX.addN (b := 1) (m := 9223372036854775807) rfl rfl rfl (by omega) | exact EX.addZ (m := 9223372036854775807) rfl rfl rfl rfl (by omega)) ?_
        refine OW.val rfl rfl (EX.assign rfl) ?_
        refine OW.nil ?_
        have e1c : (s.drop i).take (i + 1 - i) = [s[i]] := by
          rw [show i + 1 - i = 1 by omega, List.drop_eq_getElem_cons hlt]
          rfl
        rw [Nat.add_sub_cancel, e1c] at hb2
        refine KW.back3 (i + 1) (.slice (some ⟨g, 0, none⟩) (l.length + 1) cap) (w2) ⟨rfl, rfl, rfl, trivial⟩ rfl ?_ (by omega)
        refine ⟨by omega, ?_, below_mo (hx.trans (Ext.drew wr)) hm2 (hx.trans (Ext.drew wr)).size (fun k hk => by simp at hk; omega)⟩
        rw [htk, e2]
        have hset : (txtsV (l ++ [x]) ++ rest).set l.length (str (x ++ [s[i]])) = txtsV (l ++ [x ++ [s[i]]]) ++ rest := by
          rw [txtsV_snoc, txtsV_snoc, List.append_assoc, List.append_assoc, List.set_append_right _ _ (by simp [txtsV])]
          simp [txtsV]
        rw [hset] at hb2
        rw [List.length_append, List.length_singleton]
        exact ⟨by simp [txtsV], .inr ⟨g, cap, rest, rfl, hgB, hb2, by simp only [txtsV_length, List.length_append, List.length_singleton] at hgl ⊢; exact hgl, by simpa using hgc, hgm⟩⟩
    · obtain rfl : i = s.length := by omega
      rw [List.take_length] at hown
      refine KW.exit rfl (KW.seq (KW.region ?_))
      refine OW.val rfl rfl (EX.move rfl) ?_
      refine OW.val rfl rfl (EX.assign rfl) ?_
      refine OW.nil ?_
      refine KW.ret (ret1 rfl rfl ?_)
      exact ⟨hown, hx⟩
end Go.Proofs.YtlpnoogcdnfllaaGreatDoor
namespace Go.Proofs.YtlpnoogcdnfllaaGreatDoor
open Go.RowKit Rec
theorem pow256 (k : Nat) : 2 ^ (8 * k) = 256 ^ k := by rw [Nat.pow_mul]
theorem number_r (n width : Nat) (hn : n < 18446744073709551616) (hw : 1 ≤ width ∧ width ≤ 8) (w : World) :
    Ret Tryz.prog 38 [.int .u64 (n : Int), .int .i64 (width : Int)] w fun v w' => v = str (be width n) ∧ Ext w w' := by
  refine Ret.enter Tryz.func38 rfl Tryz.ntmps38 (by kernel_rfl) rfl ?_
  refine KW.seq (KW.region ?_)
  refine OW.val rfl rfl (EX.assign rfl) ?_
  refine OW.nil ?_
  refine KW.seq (KW.region ?_)
  refine OW.val rfl rfl (EX.move rfl) ?_
  refine OW.makeB rfl rfl Tryz.underlying59 ti5 rfl rfl rfl (by omega) (by omega) ?_
  rintro gb w1 hge hg hx
  refine OW.val rfl rfl (EX.assign rfl) ?_
  refine OW.nil ?_
  refine KW.seq (KW.seq (KW.region ?_))
  refine OW.val rfl rfl (EX.move rfl) ?_
  refine OW.val rfl rfl (EX.lenA Tryz.underlying59 rfl) ?_
  refine OW.val rfl rfl (EX.move rfl) ?_
  refine OW.nil ?_
  refine KW.block ?_
  refine KW.loop2 (fun (i : Nat) (wr : World) => i ≤ width ∧ Bk wr gb 5 (bytesV (be i (n / 256 ^ (width - i))) ++ List.replicate (width - i) (.int .u8 0)) ∧ Ext w wr) (fun (i : Nat) (wr : World) => [(0, .int .u64 ((n : Nat) : Int)), (1, .int .i64 ((width : Nat) : Int)), (5, .slice (some ⟨gb, 0, none⟩) width width), (10, .int .i64 ((width : Nat) : Int)), (11, .int .i64 ((i : Nat) : Int))]) (fun (i : Nat) (wr : World) => wr) (fun (i : Nat) (wr : World) => width - i) (0) (w1) ⟨rfl, rfl, rfl, rfl, rfl, trivial⟩ rfl ?_ ?_
  · exact ⟨by omega, by simpa [be, bytesV] using hg, hx⟩
  · rintro i wr ⟨hi, hb, hxr⟩
    refine KW.seq (KW.region ?_)
    refine OW.val rfl rfl (by first | exact EX.lssN rfl rfl | exact EX.lssZ rfl rfl) ?_
    refine OW.nil ?_
    refine KW.seq ?_
    refine KW.condD rfl (fun hlt => ?_) (fun hlt => ?_)
    · have hs : n / 256 ^ (width - 1 - i) / 256 = n / 256 ^ (width - i) := by
        rw [show width - i = (width - 1 - i) + 1 by omega, Nat.pow_succ, Nat.div_div_eq_div_mul]
      have hq : n / 256 ^ (width - 1 - i) ≤ n := Nat.div_le_self _ _
      refine KW.skip (KW.seq (KW.block (KW.seq (KW.region ?_))))
      refine OW.val rfl rfl (EX.move rfl) ?_
      refine OW.val rfl rfl (EX.assign rfl) ?_
      refine OW.nil ?_
      refine KW.region ?_
      refine OW.val rfl rfl (EX.move rfl) ?_
      refine OW.val rfl rfl (EX.move rfl) ?_
      refine OW.val rfl rfl (EX.move rfl) ?_
      refine OW.val rfl rfl (EX.move rfl) ?_
      refine OW.val rfl rfl (by first | exact EX.subN (b := 1) (m := 9223372036854775807) rfl rfl rfl (by omega) | exact EX.subZ (m := 9223372036854775807) rfl rfl rfl rfl (by omega)) ?_
      refine OW.val rfl rfl (EX.move rfl) ?_
      refine OW.val rfl rfl (by first | exact EX.subN (m := 9223372036854775807) rfl rfl rfl (by omega) | exact EX.subZ (m := 9223372036854775807) rfl rfl rfl rfl (by omega)) ?_
      refine OW.val rfl rfl (by first | exact EX.mulN (a := 8) (m := 9223372036854775807) rfl rfl rfl (by omega) | exact EX.mulZ (m := 9223372036854775807) rfl rfl rfl rfl (by omega)) ?_
      refine OW.val rfl rfl (by first | exact EX.convN (m := 18446744073709551615) Tryz.underlying3 Tryz.underlying77 rfl rfl (by omega) | exact EX.convW (m := 18446744073709551616) Tryz.underlying3 Tryz.underlying77 rfl rfl (by decide) | exact EX.convZ Tryz.underlying3 Tryz.underlying77 rfl) ?_
      refine OW.val rfl rfl (EX.shrN (s := 8 * (width - 1 - i)) (p := 256 ^ (width - 1 - i)) rfl rfl (pow256 _) (by show _ ≤ 64; omega)) ?_
      refine OW.val rfl rfl (by first | exact EX.convN (m := 255) Tryz.underlying82 Tryz.underlying5 rfl rfl (by omega) | exact EX.convW (m := 256) Tryz.underlying82 Tryz.underlying5 rfl rfl (by decide) | exact EX.convZ Tryz.underlying82 Tryz.underlying5 rfl) ?_
      refine OW.val rfl rfl (by first | exact EX.indexAddrS0 Tryz.underlying59 ti5 rfl rfl (by omega) | exact EX.indexAddrS1 Tryz.underlying59 ti5 rfl rfl (by omega)) ?_
      refine OW.storeB rfl ti5 rfl rfl (by first | rfl | assumption | exact Own.one (by assumption)) (hb) (by simp [bytesV, be_length]; omega) ?_
      rintro w2 hb2 hm2
      refine OW.nil ?_
      refine KW.leave (KW.region ?_)
      refine OW.val rfl rfl (by first | exact EX.addN (b := 1) (m := 9223372036854775807) rfl rfl rfl (by omega) | exact EX.addZ (m := 9223372036854775807) rfl rfl rfl rfl (by omega)) ?_
      refine OW.val rfl rfl (EX.move rfl) ?_
      refine OW.nil ?_
      refine KW.back2 (i + 1) (w2) ⟨rfl, rfl, rfl, rfl, rfl, trivial⟩ rfl ?_ (by omega)
      refine ⟨by omega, ?_, below_mo hxr hm2 hxr.size (fun k hk => by simp at hk; omega)⟩
      have e : be (i + 1) (n / 256 ^ (width - (i + 1))) = be i (n / 256 ^ (width - i)) ++ [UInt8.ofNat (n / 256 ^ (width - 1 - i) % 256)] := by
        rw [show width - (i + 1) = width - 1 - i by omega]
        simp only [be]
        rw [hs]
      have e2 : (bytesV (be i (n / 256 ^ (width - i))) ++ List.replicate (width - i) (Value.int .u8 0)).set i (.int .u8 ((n / 256 ^ (width - 1 - i) % 256 : Nat) : Int)) = bytesV (be (i + 1) (n / 256 ^ (width - (i + 1)))) ++ List.replicate (width - (i + 1)) (.int .u8 0) := by
        rw [e, List.set_append_right _ _ (by simp [bytesV, be_length])]
        have hl : (bytesV (be i (n / 256 ^ (width - i)))).length = i := by simp [bytesV, be_length]
        rw [hl, Nat.sub_self, show width - i = (width - (i + 1)) + 1 by omega, List.replicate_succ, List.set_cons_zero]
        simp [bytesV]
      rw [← e2]
      exact hb2
    · obtain rfl : i = width := by omega
      rw [Nat.sub_self, List.replicate_zero, List.append_nil, Nat.pow_zero, Nat.div_one] at hb
      refine KW.exit rfl (KW.seq (KW.region ?_))
      refine OW.val rfl rfl (EX.move rfl) ?_
      refine OW.val rfl rfl (EX.strOf Tryz.underlying59 Tryz.underlying5 Tryz.underlying9 rfl (hb.sl) (be_length _ _)) ?_
      refine OW.val rfl rfl (EX.assign rfl) ?_
      refine OW.nil ?_
      refine KW.ret (ret1 rfl rfl ?_)
      exact ⟨rfl, hxr⟩
theorem nb_take_succ (s : List UInt8) {i : Nat} (h : i < s.length) : nb (s.take (i + 1)) = nb (s.take i) * 256 + s[i].toNat := by
  rw [List.take_add_one, List.getElem?_eq_getElem h]
  exact nb_snoc _ _
theorem take_s (rb n : Nat) (s : List UInt8) (T : TypeId) (w : World) (hb : Bk w rb T [str s]) (hn : n ≤ 1000000000000) (hs : s.length ≤ 1000000000000) :
    Ret Tryz.prog 44 [.pointer (some ⟨rb, 0, none⟩), .int .i64 (n : Int)] w fun v w' => v = str (s.take n) ∧ Bk w' rb T [str (s.drop n)] ∧ Mo w w' [rb] := by
  refine Ret.enter Tryz.func44 rfl Tryz.ntmps44 (by kernel_rfl) rfl ?_
  refine KW.seq (KW.region ?_)
  refine OW.val rfl rfl (EX.assign rfl) ?_
  refine OW.nil ?_
  refine KW.seq (KW.seq (KW.region ?_))
  refine OW.val rfl rfl (EX.move rfl) ?_
  refine OW.val rfl rfl (EX.move rfl) ?_
  refine OW.val rfl rfl (EX.nilCheck rfl) ?_
  refine OW.val rfl rfl (EX.fieldAddr (off := 0) Tryz.underlying89 rfl rfl ti9 rfl rfl) ?_
  refine OW.val rfl rfl (EX.load Tryz.underlying9 rfl rfl (hb.cell_of rfl)) ?_
  refine OW.val rfl rfl (EX.lenS Tryz.underlying9 rfl) ?_
  refine OW.val rfl rfl (by first | exact EX.gtrN rfl rfl | exact EX.gtrZ rfl rfl) ?_
  refine OW.nil ?_
  refine KW.condD rfl (fun h => ?_) (fun h => ?_)
  · have e1 : s.take n = s := List.take_of_length_le (by omega)
    have e2 : s.drop n = [] := List.drop_of_length_le (by omega)
    refine KW.region ?_
    refine OW.val rfl rfl (EX.move rfl) ?_
    refine OW.val rfl rfl (EX.nilCheck rfl) ?_
    refine OW.val rfl rfl (EX.fieldAddr (off := 0) Tryz.underlying89 rfl rfl ti9 rfl rfl) ?_
    refine OW.val rfl rfl (EX.load Tryz.underlying9 rfl rfl (hb.cell_of rfl)) ?_
    refine OW.val rfl rfl (EX.lenS Tryz.underlying9 rfl) ?_
    refine OW.val rfl rfl (EX.assign rfl) ?_
    refine OW.nil ?_
    refine KW.seq (KW.region ?_)
    refine OW.val rfl rfl (EX.move rfl) ?_
    refine OW.val rfl rfl (EX.nilCheck rfl) ?_
    refine OW.val rfl rfl (EX.fieldAddr (off := 0) Tryz.underlying89 rfl rfl ti9 rfl rfl) ?_
    refine OW.val rfl rfl (EX.load Tryz.underlying9 rfl rfl (hb.cell_of rfl)) ?_
    refine OW.val rfl rfl (EX.move rfl) ?_
    refine OW.val rfl rfl (EX.sliceFH Tryz.underlying9 rfl rfl (by omega)) ?_
    refine OW.val rfl rfl (EX.assign rfl) ?_
    refine OW.nil ?_
    refine KW.seq (KW.region ?_)
    refine OW.val rfl rfl (EX.move rfl) ?_
    refine OW.val rfl rfl (EX.move rfl) ?_
    refine OW.val rfl rfl (EX.nilCheck rfl) ?_
    refine OW.val rfl rfl (EX.fieldAddr (off := 0) Tryz.underlying89 rfl rfl ti9 rfl rfl) ?_
    refine OW.val rfl rfl (EX.load Tryz.underlying9 rfl rfl (hb.cell_of rfl)) ?_
    refine OW.val rfl rfl (EX.move rfl) ?_
    refine OW.val rfl rfl (EX.sliceLE Tryz.underlying9 rfl rfl (by omega)) ?_
    refine OW.val rfl rfl (EX.nilCheck rfl) ?_
    refine OW.val rfl rfl (EX.fieldAddr (off := 0) Tryz.underlying89 rfl rfl ti9 rfl rfl) ?_
    refine OW.storeB rfl ti9 rfl rfl (by first | rfl | assumption | exact Own.one (by assumption)) (hb) (by simp) ?_
    rintro w2 hb2 hm2
    refine OW.nil ?_
    refine KW.seq (KW.region ?_)
    refine OW.val rfl rfl (EX.move rfl) ?_
    refine OW.val rfl rfl (EX.assign rfl) ?_
    refine OW.nil ?_
    refine KW.ret (ret1 rfl rfl ?_)
    rw [e1, e2]
    refine ⟨?_, ?_, hm2⟩
    · simp
    · simpa using hb2
  · refine KW.skip (KW.seq (KW.region ?_))
    refine OW.val rfl rfl (EX.move rfl) ?_
    refine OW.val rfl rfl (EX.nilCheck rfl) ?_
    refine OW.val rfl rfl (EX.fieldAddr (off := 0) Tryz.underlying89 rfl rfl ti9 rfl rfl) ?_
    refine OW.val rfl rfl (EX.load Tryz.underlying9 rfl rfl (hb.cell_of rfl)) ?_
    refine OW.val rfl rfl (EX.move rfl) ?_
    refine OW.val rfl rfl (EX.sliceFH Tryz.underlying9 rfl rfl (by omega)) ?_
    refine OW.val rfl rfl (EX.assign rfl) ?_
    refine OW.nil ?_
    refine KW.seq (KW.region ?_)
    refine OW.val rfl rfl (EX.move rfl) ?_
    refine OW.val rfl rfl (EX.move rfl) ?_
    refine OW.val rfl rfl (EX.nilCheck rfl) ?_
    refine OW.val rfl rfl (EX.fieldAddr (off := 0) Tryz.underlying89 rfl rfl ti9 rfl rfl) ?_
    refine OW.val rfl rfl (EX.load Tryz.underlying9 rfl rfl (hb.cell_of rfl)) ?_
    refine OW.val rfl rfl (EX.move rfl) ?_
    refine OW.val rfl rfl (EX.sliceLE Tryz.underlying9 rfl rfl (by omega)) ?_
    refine OW.val rfl rfl (EX.nilCheck rfl) ?_
    refine OW.val rfl rfl (EX.fieldAddr (off := 0) Tryz.underlying89 rfl rfl ti9 rfl rfl) ?_
    refine OW.storeB rfl ti9 rfl rfl (by first | rfl | assumption | exact Own.one (by assumption)) (hb) (by simp) ?_
    rintro w2 hb2 hm2
    refine OW.nil ?_
    refine KW.seq (KW.region ?_)
    refine OW.val rfl rfl (EX.move rfl) ?_
    refine OW.val rfl rfl (EX.assign rfl) ?_
    refine OW.nil ?_
    refine KW.ret (ret1 rfl rfl ?_)
    exact ⟨rfl, by simpa using hb2, hm2⟩
theorem wrap64 (n : Nat) (h : n < 18446744073709551616) : IntKind.i64.wrap (n : Int) = if n < 9223372036854775808 then (n : Int) else (n : Int) - 18446744073709551616 := by
  have e : IntKind.i64.wrap (n : Int) = if (n : Int) % 18446744073709551616 ≥ 9223372036854775808 then (n : Int) % 18446744073709551616 - 18446744073709551616 else (n : Int) % 18446744073709551616 := by
    unfold IntKind.wrap
    simp [IntKind.bits, IntKind.signed]
  rw [e, Int.emod_eq_of_lt (by omega) (by omega)]
  split <;> split <;> omega
theorem wrap_numI (s : List UInt8) (h : nb s < 18446744073709551616) : IntKind.i64.wrap (nb s : Int) = numI s := by rw [wrap64 _ h]; rfl
theorem ofInt_wrap (n : Nat) (h : n < 18446744073709551616) : (BitVec.ofInt 64 (IntKind.i64.wrap (n : Int))).toNat = n := by
  rw [wrap64 n h, BitVec.toNat_ofInt]
  split <;> omega
section
variable {P : Program} {n : Nat} {σ : Sig} {w : World} {x y : Operand} {t t' ty : TypeId}
theorem EX.shlZ {s p : Nat} {c : Int} {k k' : IntKind} (hx : ev σ x = some (.int k c)) (hy : ev σ y = some (.int k' (s : Int))) (hp : 2 ^ s = p) (hs : s ≤ k.bits) :
    EX P n σ (.binOp .shl t x y t') ty w (.int k (k.wrap (c * (p : Int)))) w :=
  EX.bin hx hy (by unfold eqGuard; rfl) (by
    subst hp
    have hn : ¬ (s : Int) < 0 := by omega
    simp [binOp, Op.shift, hn, Nat.min_eq_left hs])
theorem EX.orLow {a b : Nat} {c : Int} (hx : ev σ x = some (.int .i64 c)) (hc : c = IntKind.i64.wrap ((a * 256 : Nat) : Int)) (hy : ev σ y = some (.int .i64 (b : Int))) (hb : b < 256) (ha : a < 72057594037927936) (hor : a * 256 ||| b = a * 256 + b) :
    EX P n σ (.binOp .or t x y t') ty w (.int .i64 (IntKind.i64.wrap ((a * 256 + b : Nat) : Int))) w :=
  EX.binI hx hy (by
    have e3 : (binOp .or t (.int .i64 c) (.int .i64 (b : Int))).run P w = .ok (.int .i64 (IntKind.i64.wrap ((BitVec.ofInt 64 c ||| BitVec.ofInt 64 (b : Int)).toNat : Int))) w := rfl
    have hf : (BitVec.ofInt 64 (b : Int)).toNat = b := ofInt_fit (k := .i64) (by simp only [maxN]; omega)
    rw [e3, BitVec.toNat_or, hc, ofInt_wrap _ (by omega), hf, hor])
end
theorem or_low (m b : Nat) (h : b < 256) : m * 256 ||| b = m * 256 + b := by
  have := Nat.two_pow_add_eq_or_of_lt (i := 8) h m
  rw [Nat.mul_comm m 256]
  exact this.symm
set_option maxRecDepth 20000 in
theorem num_s (rb n : Nat) (s : List UInt8) (T : TypeId) (w : World) (hb : Bk w rb T [str s]) (hn : n ≤ 8) (hs : s.length ≤ 1000000000000) :
    Ret Tryz.prog 45 [.pointer (some ⟨rb, 0, none⟩), .int .i64 (n : Int)] w fun v w' => v = .int .i64 (numI (s.take n)) ∧ Bk w' rb T [str (s.drop n)] ∧ Mo w w' [rb] := by
  have htl : (s.take n).length ≤ 8 := by rw [List.length_take]; omega
  have hlt8 : nb (s.take n) < 18446744073709551616 := Nat.lt_of_lt_of_le (nb_lt _ _ rfl) (Nat.pow_le_pow_right (by decide) htl)
  refine Ret.enter Tryz.func45 rfl Tryz.ntmps45 (by kernel_rfl) rfl ?_
  refine KW.seq (KW.region ?_)
  refine OW.val rfl rfl (EX.assign rfl) ?_
  refine OW.nil ?_
  refine KW.seq (KW.region ?_)
  refine OW.val rfl rfl (EX.assign rfl) ?_
  refine OW.nil ?_
  refine KW.seq (KW.seq (KW.region ?_))
  refine OW.val rfl rfl (EX.move rfl) ?_
  refine OW.val rfl rfl (EX.nilCheck rfl) ?_
  refine OW.val rfl rfl (EX.fieldAddr (off := 0) Tryz.underlying91 rfl rfl ti89 rfl rfl) ?_
  refine OW.val rfl rfl (EX.move rfl) ?_
  refine OW.call rfl rfl rfl (take_s rb n s T w hb (by omega) hs) ?_
  rintro _ w1 ⟨rfl, hb1, hm1⟩
  generalize hq : s.take n = q at htl hlt8
  refine OW.bytesOf rfl rfl Tryz.underlying9 Tryz.underlying59 Tryz.underlying5 rfl (by omega) ?_
  rintro cap rs w2 hgb hc hmx hl hx2
  refine OW.val rfl rfl (EX.lenA Tryz.underlying59 rfl) ?_
  refine OW.val rfl rfl (EX.move rfl) ?_
  refine OW.nil ?_
  refine KW.block ?_
  refine KW.loop2 (fun (i : Nat) (z : Int) => i ≤ q.length ∧ z = IntKind.i64.wrap ((nb (q.take i) : Nat) : Int)) (fun (i : Nat) (z : Int) => [(5, .int .i64 (z : Int)), (13, .slice (some ⟨w1.heap.size, 0, none⟩) q.length cap), (14, .int .i64 ((q.length : Nat) : Int)), (15, .int .i64 ((i : Nat) : Int))]) (fun (i : Nat) (z : Int) => w2) (fun (i : Nat) (z : Int) => q.length - i) (0) (0) ⟨rfl, rfl, rfl, rfl, trivial⟩ rfl ?_ ?_
  · exact ⟨by omega, by simp [nb]; rfl⟩
  · rintro i z ⟨hi, hz⟩
    refine KW.seq (KW.region ?_)
    refine OW.val rfl rfl (by first | exact EX.lssN rfl rfl | exact EX.lssZ rfl rfl) ?_
    refine OW.nil ?_
    refine KW.seq ?_
    refine KW.condD rfl (fun hlt => ?_) (fun hlt => ?_)
    · have hm8 : nb (q.take i) < 72057594037927936 := Nat.lt_of_lt_of_le (nb_lt i _ (by simp; omega)) (Nat.pow_le_pow_right (by decide) (show i ≤ 7 by omega))
      have hcc := (q[i]).toNat_lt
      obtain rfl : z = ((nb (q.take i) : Nat) : Int) := by rw [hz, wrap64 _ (by omega), if_pos (by omega)]
      have hel : (bytesV q ++ rs)[i]? = some (.int .u8 ((q[i].toNat : Nat) : Int)) := by
        rw [List.getElem?_append_left (by simpa [bytesV] using hlt)]
        simp [bytesV, hlt]
      refine KW.skip (KW.seq (KW.block (KW.seq (KW.region ?_))))
      refine OW.val rfl rfl (by first | exact EX.indexAddrS0 Tryz.underlying59 ti5 rfl rfl (by omega) | exact EX.indexAddrS1 Tryz.underlying59 ti5 rfl rfl (by omega)) ?_
      refine OW.val rfl rfl (EX.load Tryz.underlying5 rfl rfl (hgb.cell_of hel)) ?_
      refine OW.val rfl rfl (EX.assign rfl) ?_
      refine OW.nil ?_
      refine KW.region ?_
      refine OW.val rfl rfl (EX.move rfl) ?_
      refine OW.val rfl rfl (EX.shlZ (s := 8) (p := 256) rfl rfl rfl (by decide)) ?_
      refine OW.val rfl rfl (EX.move rfl) ?_
      refine OW.val rfl rfl (by first | exact EX.convN (m := 9223372036854775807) Tryz.underlying5 Tryz.underlying3 rfl rfl (by omega) | exact EX.convZ Tryz.underlying5 Tryz.underlying3 rfl) ?_
      refine OW.val rfl rfl (EX.orLow (a := nb (q.take i)) rfl (by simp) rfl (by omega) hm8 (or_low _ _ (by omega))) ?_
      refine OW.val rfl rfl (EX.assign rfl) ?_
      refine OW.nil ?_
      refine KW.leave (KW.region ?_)
      refine OW.val rfl rfl (by first | exact EX.addN (b := 1) (m := 9223372036854775807) rfl rfl rfl (by omega) | exact EX.addZ (m := 9223372036854775807) rfl rfl rfl rfl (by omega)) ?_
      refine OW.val rfl rfl (EX.move rfl) ?_
      refine OW.nil ?_
      refine KW.back2 (i + 1) (IntKind.i64.wrap ((nb (q.take i) * 256 + q[i].toNat : Nat) : Int)) ⟨rfl, rfl, rfl, rfl, trivial⟩ rfl ?_ (by omega)
      exact ⟨by omega, by rw [nb_take_succ q hlt]⟩
    · obtain rfl : i = q.length := by omega
      rw [List.take_length] at hz
      refine KW.exit rfl (KW.seq (KW.region ?_))
      refine OW.val rfl rfl (EX.move rfl) ?_
      refine OW.val rfl rfl (EX.assign rfl) ?_
      refine OW.nil ?_
      refine KW.ret (ret1 rfl rfl ?_)
      refine ⟨by rw [hz, wrap_numI _ hlt8], hb1.ext hx2, hm1.trans (Mo.of_ext hx2 _)⟩
end Go.Proofs.YtlpnoogcdnfllaaGreatDoor
namespace Go.Proofs.YtlpnoogcdnfllaaGreatDoor
open Go.RowKit Rec
theorem oneB {w : World} {b k : Nat} {T : TypeId} (h : Bk w b T [.int .u8 (k : Int)]) (hk : k ≤ 255) : Sl w w.heap.size (some ⟨b, 0, none⟩) (bytesV [UInt8.ofNat k]) := by
  have e : bytesV [UInt8.ofNat k] = [.int .u8 (k : Int)] := by
    have : (UInt8.ofNat k).toNat = k := by simp; omega
    simp [bytesV, this]
  rw [e]
  exact h.sl
theorem repeat_c (n : Nat) (hn : n ≤ 1000) (w : World) : Ret Tryz.prog 39 [str [0], .int .i64 (n : Int)] w fun v w' => v = str (List.replicate n 0) ∧ Ext w w' := by
  have hnn : (!(Tryz.f39.name == "runtime.NumGoroutine") && Tryz.f39.body.isSome) = true := by kernel_rfl
  have h := Tryz.strings_Repeat ⟨#[0]⟩ n w (by omega) (by show 1 * n ≤ _; omega)
  have e : Go.Lib.repeatL (⟨#[0]⟩ : ByteArray).data.toList n = List.replicate n 0 := by
    show Go.Lib.repeatL [0] n = _
    clear h hn
    induction n with
    | zero => rfl
    | succ n ih => rw [List.replicate_succ, ← ih]; rfl
  rw [e] at h
  exact Ret.of_calls Tryz.func39 hnn h
theorem cieee_lt (s : List UInt8) : cieee s < 4294967296 := trn_lt _ _ _ (by decide)
def head (kind gen index : Nat) (n : Nat) : List UInt8 := [75, 73, 83, 84] ++ [UInt8.ofNat kind] ++ be 8 gen ++ be 4 index ++ be 2 n
theorem head_length (kind gen index n : Nat) : (head kind gen index n).length = 19 := by simp [head, be_length]
set_option maxRecDepth 20000 in
theorem encode_s (kind : Nat) (hk : kind ≤ 255) (gen index : Int) (data : List UInt8) (hd : data.length ≤ 140737488355328) (w : World) :
    Ret Tryz.prog 23 [.int .u8 (kind : Int), .int .i64 gen, .int .i64 index, str data] w fun v w' => v = .tuple #[str (encodeR kind gen index data).1, .int .i64 (((encodeR kind gen index data).2 : Nat) : Int)] ∧ Ext w w' := by
  have eb : bad kind gen index data → encodeR kind gen index data = ([], 200) := fun h => by unfold encodeR; rw [if_pos h]
  refine Ret.enter Tryz.func23 rfl Tryz.ntmps23 (by kernel_rfl) rfl ?_
  refine KW.seq (KW.region ?_)
  refine OW.val rfl rfl (EX.assign rfl) ?_
  refine OW.val rfl rfl (EX.assign rfl) ?_
  refine OW.nil ?_
  refine KW.seq (KW.seq ?_)
  refine KW.region ?_
  refine OW.val rfl rfl (EX.move rfl) ?_
  refine OW.val rfl rfl (by first | exact EX.eqlN (b := 0) rfl rfl | exact EX.eqlZ rfl rfl) ?_
  refine OW.val rfl rfl (EX.move rfl) ?_
  refine OW.splitD 13 rfl (fun a1 => ?_) (fun a1 => ?_)
  · refine OW.pass rfl rfl ?_
    refine OW.pass rfl rfl ?_
    refine OW.val rfl rfl (EX.pickT rfl rfl) ?_
    refine OW.val rfl rfl (EX.move rfl) ?_
    refine OW.pass rfl rfl ?_
    refine OW.pass rfl rfl ?_
    refine OW.val rfl rfl (EX.pickT rfl rfl) ?_
    refine OW.val rfl rfl (EX.move rfl) ?_
    refine OW.pass rfl rfl ?_
    refine OW.pass rfl rfl ?_
    refine OW.val rfl rfl (EX.pickT rfl rfl) ?_
    refine OW.val rfl rfl (EX.move rfl) ?_
    refine OW.pass rfl rfl ?_
    refine OW.pass rfl rfl ?_
    refine OW.val rfl rfl (EX.pickT rfl rfl) ?_
    refine OW.val rfl rfl (EX.move rfl) ?_
    refine OW.pass rfl rfl ?_
    refine OW.pass rfl rfl ?_
    refine OW.pass rfl rfl ?_
    refine OW.val rfl rfl (EX.pickT rfl rfl) ?_
    refine OW.nil ?_
    refine KW.condT rfl (KW.seq (KW.region ?_))
    refine OW.val rfl rfl (EX.assign rfl) ?_
    refine OW.val rfl rfl (EX.assign rfl) ?_
    refine OW.nil ?_
    refine KW.ret (ret2 rfl rfl rfl ?_)
    rw [eb (.inl a1)]
    exact ⟨rfl, Ext.refl _⟩
  · refine OW.val rfl rfl (EX.move rfl) ?_
    refine OW.val rfl rfl (by first | exact EX.lssN (b := 0) rfl rfl | exact EX.lssZ rfl rfl) ?_
    refine OW.val rfl rfl (EX.pickF rfl rfl) ?_
    refine OW.val rfl rfl (EX.move rfl) ?_
    refine OW.splitD 17 rfl (fun a2 => ?_) (fun a2 => ?_)
    · refine OW.pass rfl rfl ?_
      refine OW.pass rfl rfl ?_
      refine OW.val rfl rfl (EX.pickT rfl rfl) ?_
      refine OW.val rfl rfl (EX.move rfl) ?_
      refine OW.pass rfl rfl ?_
      refine OW.pass rfl rfl ?_
      refine OW.val rfl rfl (EX.pickT rfl rfl) ?_
      refine OW.val rfl rfl (EX.move rfl) ?_
      refine OW.pass rfl rfl ?_
      refine OW.pass rfl rfl ?_
      refine OW.val rfl rfl (EX.pickT rfl rfl) ?_
      refine OW.val rfl rfl (EX.move rfl) ?_
      refine OW.pass rfl rfl ?_
      refine OW.pass rfl rfl ?_
      refine OW.pass rfl rfl ?_
      refine OW.val rfl rfl (EX.pickT rfl rfl) ?_
      refine OW.nil ?_
      refine KW.condT rfl (KW.seq (KW.region ?_))
      refine OW.val rfl rfl (EX.assign rfl) ?_
      refine OW.val rfl rfl (EX.assign rfl) ?_
      refine OW.nil ?_
      refine KW.ret (ret2 rfl rfl rfl ?_)
      rw [eb (.inr (.inl a2))]
      exact ⟨rfl, Ext.refl _⟩
    · refine OW.val rfl rfl (EX.move rfl) ?_
      refine OW.val rfl rfl (by first | exact EX.gtrN (b := 4611686018427387904) rfl rfl | exact EX.gtrZ rfl rfl) ?_
      refine OW.val rfl rfl (EX.pickF rfl rfl) ?_
      refine OW.val rfl rfl (EX.move rfl) ?_
      refine OW.splitD 21 rfl (fun a3 => ?_) (fun a3 => ?_)
      · refine OW.pass rfl rfl ?_
        refine OW.pass rfl rfl ?_
        refine OW.val rfl rfl (EX.pickT rfl rfl) ?_
        refine OW.val rfl rfl (EX.move rfl) ?_
        refine OW.pass rfl rfl ?_
        refine OW.pass rfl rfl ?_
        refine OW.val rfl rfl (EX.pickT rfl rfl) ?_
        refine OW.val rfl rfl (EX.move rfl) ?_
        refine OW.pass rfl rfl ?_
        refine OW.pass rfl rfl ?_
        refine OW.pass rfl rfl ?_
        refine OW.val rfl rfl (EX.pickT rfl rfl) ?_
        refine OW.nil ?_
        refine KW.condT rfl (KW.seq (KW.region ?_))
        refine OW.val rfl rfl (EX.assign rfl) ?_
        refine OW.val rfl rfl (EX.assign rfl) ?_
        refine OW.nil ?_
        refine KW.ret (ret2 rfl rfl rfl ?_)
        rw [eb (.inr (.inr (.inl a3)))]
        exact ⟨rfl, Ext.refl _⟩
      · refine OW.val rfl rfl (EX.move rfl) ?_
        refine OW.val rfl rfl (by first | exact EX.lssN (b := 0) rfl rfl | exact EX.lssZ rfl rfl) ?_
        refine OW.val rfl rfl (EX.pickF rfl rfl) ?_
        refine OW.val rfl rfl (EX.move rfl) ?_
        refine OW.splitD 25 rfl (fun a4 => ?_) (fun a4 => ?_)
        · refine OW.pass rfl rfl ?_
          refine OW.pass rfl rfl ?_
          refine OW.val rfl rfl (EX.pickT rfl rfl) ?_
          refine OW.val rfl rfl (EX.move rfl) ?_
          refine OW.pass rfl rfl ?_
          refine OW.pass rfl rfl ?_
          refine OW.pass rfl rfl ?_
          refine OW.val rfl rfl (EX.pickT rfl rfl) ?_
          refine OW.nil ?_
          refine KW.condT rfl (KW.seq (KW.region ?_))
          refine OW.val rfl rfl (EX.assign rfl) ?_
          refine OW.val rfl rfl (EX.assign rfl) ?_
          refine OW.nil ?_
          refine KW.ret (ret2 rfl rfl rfl ?_)
          rw [eb (.inr (.inr (.inr (.inl a4))))]
          exact ⟨rfl, Ext.refl _⟩
        · refine OW.val rfl rfl (EX.move rfl) ?_
          refine OW.val rfl rfl (by first | exact EX.gtrN (b := 2147483647) rfl rfl | exact EX.gtrZ rfl rfl) ?_
          refine OW.val rfl rfl (EX.pickF rfl rfl) ?_
          refine OW.val rfl rfl (EX.move rfl) ?_
          refine OW.splitD 29 rfl (fun a5 => ?_) (fun a5 => ?_)
          · refine OW.pass rfl rfl ?_
            refine OW.pass rfl rfl ?_
            refine OW.pass rfl rfl ?_
            refine OW.val rfl rfl (EX.pickT rfl rfl) ?_
            refine OW.nil ?_
            refine KW.condT rfl (KW.seq (KW.region ?_))
            refine OW.val rfl rfl (EX.assign rfl) ?_
            refine OW.val rfl rfl (EX.assign rfl) ?_
            refine OW.nil ?_
            refine KW.ret (ret2 rfl rfl rfl ?_)
            rw [eb (.inr (.inr (.inr (.inr (.inl a5)))))]
            exact ⟨rfl, Ext.refl _⟩
          · refine OW.val rfl rfl (EX.move rfl) ?_
            refine OW.val rfl rfl (EX.lenS Tryz.underlying9 rfl) ?_
            refine OW.val rfl rfl (by first | exact EX.gtrN (b := 486) rfl rfl | exact EX.gtrZ rfl rfl) ?_
            refine OW.val rfl rfl (EX.pickF rfl rfl) ?_
            refine OW.nil ?_
            refine KW.condD rfl (fun a6 => ?_) (fun a6 => ?_)
            · refine KW.seq (KW.region ?_)
              refine OW.val rfl rfl (EX.assign rfl) ?_
              refine OW.val rfl rfl (EX.assign rfl) ?_
              refine OW.nil ?_
              refine KW.ret (ret2 rfl rfl rfl ?_)
              rw [eb (.inr (.inr (.inr (.inr (.inr a6)))))]
              exact ⟨rfl, Ext.refl _⟩
            · refine KW.skip (KW.seq ?_)
              have e : encodeR kind gen index data = (text kind gen.toNat index.toNat data, 0) := by unfold encodeR; rw [if_neg]; rintro (h | h | h | h | h | h) <;> omega
              rw [e]
              obtain ⟨g, rfl⟩ := Int.eq_ofNat_of_zero_le (show 0 ≤ gen by omega)
              obtain ⟨ix, rfl⟩ := Int.eq_ofNat_of_zero_le (show 0 ≤ index by omega)
              have l8 := be_length 8 g
              have l4 := be_length 4 ix
              have l2 := be_length 2 data.length
              refine KW.cut1 (fun (wr : World) => Ext w wr) (fun (wr : World) => [(3, str (data)), (10, str (head kind g ix data.length))]) (fun (wr : World) => wr) ?_ ?_
              · skip
                refine KW.regionG (N := 18) (fun w' => Ext w w') (by kernel_rfl) rfl ?_
                have hS : (fun w' => Ext w w') w.drew := Ext.drew w
                refine GW.val 0 rfl (by kernel_rfl) (by kernel_rfl) (by kernel_rfl) rfl rfl hS (fun w' hS' => EX.move rfl) ?_
                refine GW.val 4 rfl (by kernel_rfl) (by kernel_rfl) (by kernel_rfl) rfl rfl hS (fun w' hS' => EX.move rfl) ?_
                refine GW.val 5 rfl (by kernel_rfl) (by kernel_rfl) (by kernel_rfl) rfl rfl hS (fun w' hS' => by first | exact EX.convN (m := 18446744073709551615) Tryz.underlying3 Tryz.underlying82 rfl rfl (by omega) | exact EX.convW (m := 18446744073709551616) Tryz.underlying3 Tryz.underlying82 rfl rfl (by decide) | exact EX.convZ Tryz.underlying3 Tryz.underlying82 rfl) ?_
                refine GW.val 8 rfl (by kernel_rfl) (by kernel_rfl) (by kernel_rfl) rfl rfl hS (fun w' hS' => EX.move rfl) ?_
                refine GW.val 9 rfl (by kernel_rfl) (by kernel_rfl) (by kernel_rfl) rfl rfl hS (fun w' hS' => by first | exact EX.convN (m := 18446744073709551615) Tryz.underlying3 Tryz.underlying82 rfl rfl (by omega) | exact EX.convW (m := 18446744073709551616) Tryz.underlying3 Tryz.underlying82 rfl rfl (by decide) | exact EX.convZ Tryz.underlying3 Tryz.underlying82 rfl) ?_
                refine GW.val 12 rfl (by kernel_rfl) (by kernel_rfl) (by kernel_rfl) rfl rfl hS (fun w' hS' => EX.move rfl) ?_
                refine GW.val 13 rfl (by kernel_rfl) (by kernel_rfl) (by kernel_rfl) rfl rfl hS (fun w' hS' => EX.lenS Tryz.underlying9 rfl) ?_
                refine GW.val 14 rfl (by kernel_rfl) (by kernel_rfl) (by kernel_rfl) rfl rfl hS (fun w' hS' => by first | exact EX.convN (m := 18446744073709551615) Tryz.underlying3 Tryz.underlying82 rfl rfl (by omega) | exact EX.convW (m := 18446744073709551616) Tryz.underlying3 Tryz.underlying82 rfl rfl (by decide) | exact EX.convZ Tryz.underlying3 Tryz.underlying82 rfl) ?_
                refine GW.two 1 6 (by kernel_rfl) ?_ ?_
                · refine GO.buildB 1 1 rfl rfl rfl Tryz.underlying59 ti5 rfl rfl rfl rfl rfl (by decide) ?_
                  rintro gb w1 hge1 h1 hx1
                  refine ⟨hS.trans hx1, fun hS => ?_⟩
                  refine GW.strong (fun w' => Ext w w' ∧ Bk w' gb 5 [.int .u8 (kind : Int)]) (fun _ h => h.1) ?_
                  replace hS := (⟨hS, h1⟩ : (fun w' => Ext w w' ∧ Bk w' gb 5 [.int .u8 (kind : Int)]) w1)
                  refine GW.val 2 rfl (by kernel_rfl) (by kernel_rfl) (by kernel_rfl) rfl rfl hS (fun w' hS' => EX.strOf Tryz.underlying59 Tryz.underlying5 Tryz.underlying9 rfl (oneB hS'.2 hk) rfl) ?_
                  refine GW.val 3 rfl (by kernel_rfl) (by kernel_rfl) (by kernel_rfl) rfl rfl hS (fun w' hS' => EX.addS (s := [75, 73, 83, 84]) rfl rfl (by first | omega | (simp only [List.length_append, List.length_cons, List.length_nil, List.length_take, List.length_drop, List.length_replicate]; omega))) ?_
                  refine GW.call 6 rfl (by kernel_rfl) rfl rfl rfl (number_r g 8 (by omega) (by decide) w1) ?_
                  rintro _ w6 ⟨rfl, hx6⟩
                  refine ⟨⟨hS.1.trans hx6, hS.2.ext hx6⟩, fun hS => ?_⟩
                  refine GW.val 7 rfl (by kernel_rfl) (by kernel_rfl) (by kernel_rfl) rfl rfl hS (fun w' hS' => EX.addS rfl rfl (by first | omega | (simp only [List.length_append, List.length_cons, List.length_nil, List.length_take, List.length_drop, List.length_replicate]; omega))) ?_
                  refine GW.call 10 rfl (by kernel_rfl) rfl rfl rfl (number_r ix 4 (by omega) (by decide) w6) ?_
                  rintro _ w10 ⟨rfl, hx10⟩
                  refine ⟨⟨hS.1.trans hx10, hS.2.ext hx10⟩, fun hS => ?_⟩
                  refine GW.val 11 rfl (by kernel_rfl) (by kernel_rfl) (by kernel_rfl) rfl rfl hS (fun w' hS' => EX.addS rfl rfl (by first | omega | (simp only [List.length_append, List.length_cons, List.length_nil, List.length_take, List.length_drop, List.length_replicate]; omega))) ?_
                  refine GW.call 15 rfl (by kernel_rfl) rfl rfl rfl (number_r data.length 2 (by omega) (by decide) w10) ?_
                  rintro _ w15 ⟨rfl, hx15⟩
                  refine ⟨⟨hS.1.trans hx15, hS.2.ext hx15⟩, fun hS => ?_⟩
                  refine GW.val 16 rfl (by kernel_rfl) (by kernel_rfl) (by kernel_rfl) rfl rfl hS (fun w' hS' => EX.addS rfl rfl (by first | omega | (simp only [List.length_append, List.length_cons, List.length_nil, List.length_take, List.length_drop, List.length_replicate]; omega))) ?_
                  refine GW.val 17 rfl (by kernel_rfl) (by kernel_rfl) (by kernel_rfl) rfl rfl hS (fun w' hS' => EX.assign rfl) ?_
                  refine GW.done (by kernel_rfl) ?_
                  refine KW.meet1 w15 ⟨rfl, rfl, trivial⟩ rfl ?_
                  exact hS.1
                · refine GO.call 6 rfl rfl rfl rfl (number_r g 8 (by omega) (by decide) w.drew) ?_
                  rintro _ w6 ⟨rfl, hx6⟩
                  refine ⟨hS.trans hx6, fun hS => ?_⟩
                  refine GW.two 1 10 (by kernel_rfl) ?_ ?_
                  · refine GO.buildB 1 1 rfl rfl rfl Tryz.underlying59 ti5 rfl rfl rfl rfl rfl (by decide) ?_
                    rintro gb w1 hge1 h1 hx1
                    refine ⟨hS.trans hx1, fun hS => ?_⟩
                    refine GW.strong (fun w' => Ext w w' ∧ Bk w' gb 5 [.int .u8 (kind : Int)]) (fun _ h => h.1) ?_
                    replace hS := (⟨hS, h1⟩ : (fun w' => Ext w w' ∧ Bk w' gb 5 [.int .u8 (kind : Int)]) w1)
                    refine GW.val 2 rfl (by kernel_rfl) (by kernel_rfl) (by kernel_rfl) rfl rfl hS (fun w' hS' => EX.strOf Tryz.underlying59 Tryz.underlying5 Tryz.underlying9 rfl (oneB hS'.2 hk) rfl) ?_
                    refine GW.val 3 rfl (by kernel_rfl) (by kernel_rfl) (by kernel_rfl) rfl rfl hS (fun w' hS' => EX.addS (s := [75, 73, 83, 84]) rfl rfl (by first | omega | (simp only [List.length_append, List.length_cons, List.length_nil, List.length_take, List.length_drop, List.length_replicate]; omega))) ?_
                    refine GW.val 7 rfl (by kernel_rfl) (by kernel_rfl) (by kernel_rfl) rfl rfl hS (fun w' hS' => EX.addS rfl rfl (by first | omega | (simp only [List.length_append, List.length_cons, List.length_nil, List.length_take, List.length_drop, List.length_replicate]; omega))) ?_
                    refine GW.call 10 rfl (by kernel_rfl) rfl rfl rfl (number_r ix 4 (by omega) (by decide) w1) ?_
                    rintro _ w10 ⟨rfl, hx10⟩
                    refine ⟨⟨hS.1.trans hx10, hS.2.ext hx10⟩, fun hS => ?_⟩
                    refine GW.val 11 rfl (by kernel_rfl) (by kernel_rfl) (by kernel_rfl) rfl rfl hS (fun w' hS' => EX.addS rfl rfl (by first | omega | (simp only [List.length_append, List.length_cons, List.length_nil, List.length_take, List.length_drop, List.length_replicate]; omega))) ?_
                    refine GW.call 15 rfl (by kernel_rfl) rfl rfl rfl (number_r data.length 2 (by omega) (by decide) w10) ?_
                    rintro _ w15 ⟨rfl, hx15⟩
                    refine ⟨⟨hS.1.trans hx15, hS.2.ext hx15⟩, fun hS => ?_⟩
                    refine GW.val 16 rfl (by kernel_rfl) (by kernel_rfl) (by kernel_rfl) rfl rfl hS (fun w' hS' => EX.addS rfl rfl (by first | omega | (simp only [List.length_append, List.length_cons, List.length_nil, List.length_take, List.length_drop, List.length_replicate]; omega))) ?_
                    refine GW.val 17 rfl (by kernel_rfl) (by kernel_rfl) (by kernel_rfl) rfl rfl hS (fun w' hS' => EX.assign rfl) ?_
                    refine GW.done (by kernel_rfl) ?_
                    refine KW.meet1 w15 ⟨rfl, rfl, trivial⟩ rfl ?_
                    exact hS.1
                  · refine GO.call 10 rfl rfl rfl rfl (number_r ix 4 (by omega) (by decide) w6) ?_
                    rintro _ w10 ⟨rfl, hx10⟩
                    refine ⟨hS.trans hx10, fun hS => ?_⟩
                    refine GW.two 1 15 (by kernel_rfl) ?_ ?_
                    · refine GO.buildB 1 1 rfl rfl rfl Tryz.underlying59 ti5 rfl rfl rfl rfl rfl (by decide) ?_
                      rintro gb w1 hge1 h1 hx1
                      refine ⟨hS.trans hx1, fun hS => ?_⟩
                      refine GW.strong (fun w' => Ext w w' ∧ Bk w' gb 5 [.int .u8 (kind : Int)]) (fun _ h => h.1) ?_
                      replace hS := (⟨hS, h1⟩ : (fun w' => Ext w w' ∧ Bk w' gb 5 [.int .u8 (kind : Int)]) w1)
                      refine GW.val 2 rfl (by kernel_rfl) (by kernel_rfl) (by kernel_rfl) rfl rfl hS (fun w' hS' => EX.strOf Tryz.underlying59 Tryz.underlying5 Tryz.underlying9 rfl (oneB hS'.2 hk) rfl) ?_
                      refine GW.val 3 rfl (by kernel_rfl) (by kernel_rfl) (by kernel_rfl) rfl rfl hS (fun w' hS' => EX.addS (s := [75, 73, 83, 84]) rfl rfl (by first | omega | (simp only [List.length_append, List.length_cons, List.length_nil, List.length_take, List.length_drop, List.length_replicate]; omega))) ?_
                      refine GW.val 7 rfl (by kernel_rfl) (by kernel_rfl) (by kernel_rfl) rfl rfl hS (fun w' hS' => EX.addS rfl rfl (by first | omega | (simp only [List.length_append, List.length_cons, List.length_nil, List.length_take, List.length_drop, List.length_replicate]; omega))) ?_
                      refine GW.val 11 rfl (by kernel_rfl) (by kernel_rfl) (by kernel_rfl) rfl rfl hS (fun w' hS' => EX.addS rfl rfl (by first | omega | (simp only [List.length_append, List.length_cons, List.length_nil, List.length_take, List.length_drop, List.length_replicate]; omega))) ?_
                      refine GW.call 15 rfl (by kernel_rfl) rfl rfl rfl (number_r data.length 2 (by omega) (by decide) w1) ?_
                      rintro _ w15 ⟨rfl, hx15⟩
                      refine ⟨⟨hS.1.trans hx15, hS.2.ext hx15⟩, fun hS => ?_⟩
                      refine GW.val 16 rfl (by kernel_rfl) (by kernel_rfl) (by kernel_rfl) rfl rfl hS (fun w' hS' => EX.addS rfl rfl (by first | omega | (simp only [List.length_append, List.length_cons, List.length_nil, List.length_take, List.length_drop, List.length_replicate]; omega))) ?_
                      refine GW.val 17 rfl (by kernel_rfl) (by kernel_rfl) (by kernel_rfl) rfl rfl hS (fun w' hS' => EX.assign rfl) ?_
                      refine GW.done (by kernel_rfl) ?_
                      refine KW.meet1 w15 ⟨rfl, rfl, trivial⟩ rfl ?_
                      exact hS.1
                    · refine GO.call 15 rfl rfl rfl rfl (number_r data.length 2 (by omega) (by decide) w10) ?_
                      rintro _ w15 ⟨rfl, hx15⟩
                      refine ⟨hS.trans hx15, fun hS => ?_⟩
                      refine GW.buildB 1 1 rfl (by kernel_rfl) rfl rfl Tryz.underlying59 ti5 rfl rfl rfl rfl rfl (by decide) ?_
                      rintro gb w1 hge1 h1 hx1
                      refine ⟨hS.trans hx1, fun hS => ?_⟩
                      refine GW.strong (fun w' => Ext w w' ∧ Bk w' gb 5 [.int .u8 (kind : Int)]) (fun _ h => h.1) ?_
                      replace hS := (⟨hS, h1⟩ : (fun w' => Ext w w' ∧ Bk w' gb 5 [.int .u8 (kind : Int)]) w1)
                      refine GW.val 2 rfl (by kernel_rfl) (by kernel_rfl) (by kernel_rfl) rfl rfl hS (fun w' hS' => EX.strOf Tryz.underlying59 Tryz.underlying5 Tryz.underlying9 rfl (oneB hS'.2 hk) rfl) ?_
                      refine GW.val 3 rfl (by kernel_rfl) (by kernel_rfl) (by kernel_rfl) rfl rfl hS (fun w' hS' => EX.addS (s := [75, 73, 83, 84]) rfl rfl (by first | omega | (simp only [List.length_append, List.length_cons, List.length_nil, List.length_take, List.length_drop, List.length_replicate]; omega))) ?_
                      refine GW.val 7 rfl (by kernel_rfl) (by kernel_rfl) (by kernel_rfl) rfl rfl hS (fun w' hS' => EX.addS rfl rfl (by first | omega | (simp only [List.length_append, List.length_cons, List.length_nil, List.length_take, List.length_drop, List.length_replicate]; omega))) ?_
                      refine GW.val 11 rfl (by kernel_rfl) (by kernel_rfl) (by kernel_rfl) rfl rfl hS (fun w' hS' => EX.addS rfl rfl (by first | omega | (simp only [List.length_append, List.length_cons, List.length_nil, List.length_take, List.length_drop, List.length_replicate]; omega))) ?_
                      refine GW.val 16 rfl (by kernel_rfl) (by kernel_rfl) (by kernel_rfl) rfl rfl hS (fun w' hS' => EX.addS rfl rfl (by first | omega | (simp only [List.length_append, List.length_cons, List.length_nil, List.length_take, List.length_drop, List.length_replicate]; omega))) ?_
                      refine GW.val 17 rfl (by kernel_rfl) (by kernel_rfl) (by kernel_rfl) rfl rfl hS (fun w' hS' => EX.assign rfl) ?_
                      refine GW.done (by kernel_rfl) ?_
                      refine KW.meet1 w1 ⟨rfl, rfl, trivial⟩ rfl ?_
                      exact hS.1
              · rintro wr hxr
                have hh := head_length kind g ix data.length
                refine KW.seq (KW.region ?_)
                refine OW.val rfl rfl (EX.move rfl) ?_
                refine OW.val rfl rfl (EX.move rfl) ?_
                refine OW.val rfl rfl (EX.move rfl) ?_
                refine OW.val rfl rfl (EX.lenS Tryz.underlying9 rfl) ?_
                refine OW.val rfl rfl (by first | exact EX.subN (a := 489) (m := 9223372036854775807) rfl rfl rfl (by omega) | exact EX.subZ (m := 9223372036854775807) rfl rfl rfl rfl (by omega)) ?_
                refine OW.call rfl rfl rfl (repeat_c (489 - data.length) (by omega) wr) ?_
                rintro _ w2 ⟨rfl, hx2⟩
                refine OW.val rfl rfl (EX.addS rfl rfl (by first | omega | (simp only [List.length_append, List.length_cons, List.length_nil, List.length_take, List.length_drop, List.length_replicate]; omega))) ?_
                refine OW.val rfl rfl (EX.addS rfl rfl (by first | omega | (simp only [List.length_append, List.length_cons, List.length_nil, List.length_take, List.length_drop, List.length_replicate]; omega))) ?_
                refine OW.val rfl rfl (EX.assign rfl) ?_
                refine OW.nil ?_
                refine KW.seq (KW.region ?_)
                refine OW.val rfl rfl (EX.move rfl) ?_
                refine OW.val rfl rfl (EX.move rfl) ?_
                have hbody : head kind g ix data.length ++ (data ++ List.replicate (489 - data.length) 0) = body kind g ix data := rfl
                rw [hbody]
                have hbl := body_length kind g ix data (by omega)
                have hcl := cieee_lt (body kind g ix data)
                have lc := be_length 4 (cieee (body kind g ix data))
                refine OW.call rfl rfl rfl (ieee_s (body kind g ix data) (by omega) w2) ?_
                rintro _ w3 ⟨rfl, hx3⟩
                refine OW.val rfl rfl (by first | exact EX.convN (m := 18446744073709551615) Tryz.underlying25 Tryz.underlying82 rfl rfl (by omega) | exact EX.convW (m := 18446744073709551616) Tryz.underlying25 Tryz.underlying82 rfl rfl (by decide) | exact EX.convZ Tryz.underlying25 Tryz.underlying82 rfl) ?_
                refine OW.call rfl rfl rfl (number_r (cieee (body kind g ix data)) 4 (by omega) (by decide) w3) ?_
                rintro _ w4 ⟨rfl, hx4⟩
                refine OW.val rfl rfl (EX.addS rfl rfl (by first | omega | (simp only [List.length_append, List.length_cons, List.length_nil, List.length_take, List.length_drop, List.length_replicate]; omega))) ?_
                refine OW.val rfl rfl (EX.assign rfl) ?_
                refine OW.val rfl rfl (EX.assign rfl) ?_
                refine OW.nil ?_
                refine KW.ret (ret2 rfl rfl rfl ?_)
                exact ⟨rfl, ((hxr.trans hx2).trans hx3).trans hx4⟩
end Go.Proofs.YtlpnoogcdnfllaaGreatDoor
namespace Go.Proofs.YtlpnoogcdnfllaaGreatDoor
open Go.RowKit
section
variable {P : Program} {n : Nat} {σ : Sig} {w : World} {x y : Operand} {t e ty T T' : TypeId} {b o : Nat} {z v : Value} {s bs : Nat} {l : List Value}
theorem EX.buildG {fs : Array Field} {parts : Array (Nat × Operand)} {pl : List (Nat × Nat)} {ks : List Nat} {vs zs : List Value} (hu : P.underlying t = some (.struct fs)) (hi : TI P t (.agg zs.toArray) s bs) (hp : places P fs.toList = some pl)
    (hk : parts.toList.map (·.1) = ks) (hv : evs σ (parts.toList.map (·.2)) = some vs) (hf : Instr.fill (pl.toArray[·]?) zs.toArray (ks.zip vs) = some l.toArray) :
    EX P n σ (.build t parts) ty w (.agg l.toArray) w := fun A ha dst pos after g => by
  have hev := ha.evs hv
  have hpv : (parts.map fun (p : Nat × Operand) => (p.1, A.eval p.2)).toList = ks.zip vs := by
    rw [← hk, ← hev]
    simp only [Array.toList_map, List.map_map, List.zip_map']
    rfl
  have hm : (fs.mapM fun f => (do pure (f.offset, ← sizeOf f.type) : Sem (Nat × Nat))).run P w = .ok pl.toArray w := by
    have := run_places (P := P) (w := w) fs.toList pl hp
    obtain ⟨fl⟩ := fs
    rw [List.mapM_toArray, map_eq_pure_bind, Sem.run_bind, this]
    rfl
  simp only [execOp, Instr.build, Sem.run_bind, run_zeroValue hi, Result.andThen_ok, run_underlying hu, hm]
  rw [show (parts.map fun (x : Nat × Operand) => match x with | (i, x) => (i, A.eval x)).toList = ks.zip vs from hpv]
  rw [show ((Value.agg zs.toArray).cells) = zs.toArray from rfl, hf]
  rfl
inductive FEqs (P : Program) (w : World) (xs ys : List Value) : List Field → List Bool → Prop
  | nil : FEqs P w xs ys [] []
  | cons {f : Field} {fs : List Field} {q : Bool} {qs : List Bool} {u v : Value} {d : TypeDesc} (hn : f.name ≠ "_") (hd : P.underlying f.type = some d) (hfl : flat d = true) (hx : xs[f.offset]? = some u) (hy : ys[f.offset]? = some v)
      (he : ∀ k, (Op.equalIn (k + 1) f.type u v).run P w = .ok q w) (hr : FEqs P w xs ys fs qs) : FEqs P w xs ys (f :: fs) (q :: qs)
theorem FEqs.run {xs ys : List Value} (k : Nat) : ∀ {fs : List Field} {qs : List Bool}, FEqs P w xs ys fs qs → (Op.eqFields (k + 1) xs.toArray ys.toArray fs).run P w = .ok (qs.all id) w
  | _, _, .nil => by simp [Op.eqFields]
  | f :: fs, q :: qs, .cons (u := u) (v := v) hn hd hfl hx hy he hr => by
    have h1 : (part f.type xs.toArray f.offset).run P w = .ok u w := by simp [part, Sem.run_bind, run_isAgg hd, hfl, hx]
    have h2 : (part f.type ys.toArray f.offset).run P w = .ok v w := by simp [part, Sem.run_bind, run_isAgg hd, hfl, hy]
    have ih := FEqs.run k hr
    simp only [Op.eqFields]
    rw [if_pos hn]
    simp only [Sem.run_bind, h1, h2, he k, Result.andThen_ok]
    cases q
    · simp
    · simpa using ih
theorem eq_int {k : IntKind} {a b : Int} (h : P.underlying t = some (.int k)) (d : Nat) : (Op.equalIn (d + 1) t (.int k a) (.int k b)).run P w = .ok (decide (a = b)) w := run_equalIn_int w d t k k a b h
theorem eq_str {a b : List UInt8} (h : P.underlying t = some .string) (d : Nat) : (Op.equalIn (d + 1) t (str a) (str b)).run P w = .ok (decide (a = b)) w := by
  have := run_equalIn_string (P := P) w d t ⟨⟨a⟩⟩ ⟨⟨b⟩⟩ h
  have e : (ByteArray.toList ⟨⟨a⟩⟩ == ByteArray.toList ⟨⟨b⟩⟩) = decide (a = b) := by rw [Bool.eq_iff_iff]; simp
  rw [e] at this
  exact this
theorem EX.eqlG {fs : Array Field} {xs ys : List Value} {qs : List Bool} {r : Bool} (hu : P.underlying t = some (.struct fs)) (hp : P.stoodInHeld t = false) (hm : P.eqGuardType P.depth t = false) (hx : ev σ x = some (.agg xs.toArray)) (hy : ev σ y = some (.agg ys.toArray))
    (h : FEqs P w xs ys fs.toList qs) (hr : qs.all id = r) : EX P n σ (.binOp .eql t x y T) ty w (.bool r) w := by
  subst hr
  have hf : P.fieldsOf t = fs := by unfold Program.fieldsOf; rw [hu]
  refine EX.bin hx hy (run_eqGuard_agg w _ t x y _ _ hm) ?_
  rw [run_eql_struct, show (10000 : Nat) = 9998 + 1 + 1 from rfl, run_equalIn_agg w _ t _ _ (by rw [hf]; exact hu) hp, hf, h.run]
  rfl
theorem EX.neqG {fs : Array Field} {xs ys : List Value} {qs : List Bool} {r : Bool} (hu : P.underlying t = some (.struct fs)) (hp : P.stoodInHeld t = false) (hm : P.eqGuardType P.depth t = false) (hx : ev σ x = some (.agg xs.toArray)) (hy : ev σ y = some (.agg ys.toArray))
    (h : FEqs P w xs ys fs.toList qs) (hr : (!qs.all id) = r) : EX P n σ (.binOp .neq t x y T) ty w (.bool r) w := by
  subst hr
  have hf : P.fieldsOf t = fs := by unfold Program.fieldsOf; rw [hu]
  refine EX.bin hx hy (run_eqGuard_agg w _ t x y _ _ hm) ?_
  rw [run_neq_struct, show (10000 : Nat) = 9998 + 1 + 1 from rfl, run_equalIn_agg w _ t _ _ (by rw [hf]; exact hu) hp, hf, h.run]
  rfl
end
section
variable {P : Program} {fn : Func} {Q : Value → World → Prop} {n : Nat} {σ : Sig} {w : World} {k : List KI}
theorem retC2 {t u : Nat} {T T' : TypeId} {b s bs : Nat} {z x : Value} {d : TypeDesc} {l : List Value} (hs : fn.results = #[.cell t T, .tmp u]) (hu : P.underlying T = some d) (hd : flat d = false) (hi : TI P T z s bs) (hv : lk σ t = some (.pointer (some ⟨b, 0, none⟩))) (hx : lk σ u = some x)
    (hb : Bk w b T' l) (hl : l.length = s) (hq : Q (.tuple #[.agg l.toArray, x]) w) : ∀ a, Fr n σ a → bodyPost P fn (fun e w' => ∃ v, e = .returned v ∧ Q v w') .ret a w :=
  ret_of (fun a ha => by
    have h := EX.loadBk (P := P) (n := n) (σ := σ) (x := .tmp t) (ty := 0) hu hd hi hv hb hl a ha none "" #[] none
    have h1 : (loadVar T ⟨b, 0, none⟩).run P w = .ok (.agg l.toArray) w := by
      have et : a.eval (.tmp t) = .pointer (some ⟨b, 0, none⟩) := ha.ev (x := .tmp t) hv
      simp only [execOp, et, Instr.loadAt, Instr.sureAddr, Sem.run_bind, Sem.run_pure, Result.andThen_ok] at h
      cases hr : (loadVar T ⟨b, 0, none⟩).run P w with
      | ok v w' => rw [hr] at h; simpa using h
      | halt q w' => rw [hr] at h; simp at h
    rw [results_cell_tmp hs]
    have e1 := ha.val t _ hv
    have e2 := ha.val u _ hx
    simp [e1, e2, asAddr, h1]) hq
end
theorem fold_set : ∀ (vs : List Value) (i : Nat) (pre post : List Value), pre.length = i → post.length = vs.length →
    (vs.zipIdx i).foldl (fun (cs : Array Value) (x : Value × Nat) => cs.setIfInBounds (0 + x.2) x.1) (pre ++ post).toArray = (pre ++ vs).toArray
  | [], i, pre, post, _, h => by
    have : post = [] := List.eq_nil_of_length_eq_zero (by simpa using h)
    subst this
    rfl
  | v :: vs, i, pre, [], _, h => by simp at h
  | v :: vs, i, pre, p :: post, hp, h => by
    have ih := fold_set vs (i + 1) (pre ++ [v]) post (by simp [hp]) (by simpa using h)
    have hset : (pre ++ p :: post).toArray.setIfInBounds (0 + i) v = ((pre ++ [v]) ++ post).toArray := by simp [← hp]
    simp only [List.zipIdx_cons, List.foldl_cons]
    rw [hset, ih]
    simp
section
variable {P : Program} {n : Nat} {σ : Sig} {w w0 : World} {x y : Operand} {t e ty ty1 : TypeId} {s bs : Nat} {R : Act → World → Prop} {ops : Array Oper} {rest : List Oper} {k : List KI} {pos pos1 : String} {after after1 : Array Edge} {gd gd1 : Option (Nat × Bool)} {d d1 : Nat}
theorem EX.buildSlice1 {z : Value} {vs : List Value} (ht : P.underlying t = some (.slice e)) (hi : TI P e z s bs) (hzs : z.cells.size = s) (hs0 : 0 < s) (hs : s ≤ 16777216) (hy : ev σ y = some (.agg vs.toArray)) (hl : vs.length = s) :
    EX P n σ (.buildSlice t 1 #[(0, y)]) ty w (.slice (some ⟨w.heap.size, 0, none⟩) 1 1) (w.alloc (.cells vs.toArray e)) := fun A ha dst pos after g => by
  have hev := ha.ev hy
  have hn : ¬ (1 * s > 2 ^ 24) := by omega
  have hn0 : ¬ (1 * s = 0) := by omega
  generalize hzz : ((Array.range (1 * s)).map fun j => z.cells[j % z.cells.size]!) = zz
  have hzl : zz.size = s := by rw [← hzz]; simp
  have hf : Instr.fill (fun i => some (i * s, s)) zz [(0, .agg vs.toArray)] = some vs.toArray := by
    obtain ⟨zl⟩ := zz
    have hzl' : zl.length = s := by simpa using hzl
    have h1 := fold_set vs 0 [] zl rfl (by omega)
    simp only [List.nil_append] at h1
    simp only [Instr.fill, Value.cells, Nat.zero_mul, List.size_toArray]
    have hn2 : ¬ (vs.length ≠ s ∨ 0 + vs.length > zl.length) := by omega
    simp only [ne_eq, Bool.or_eq_true, decide_eq_true_eq]
    rw [if_neg (by simpa using hn2)]
    have h2 : vs.toArray.zipIdx.foldl (fun (cs : Array Value) (x : Value × Nat) => cs.setIfInBounds (0 + x.2) x.1) zl.toArray = vs.toArray := by
      rw [← Array.foldl_toList, Array.toList_zipIdx]
      exact h1
    exact congrArg some h2
  simp only [execOp, Sem.run_bind]
  have hb : (Instr.buildSlice t 1 (#[(0, y)].map fun (x : Nat × Operand) => (x.1, A.eval x.2))).run P w = .ok (.slice (some ⟨w.heap.size, 0, none⟩) 1 1) (w.alloc (.cells vs.toArray e)) := by
    have hp : (#[(0, y)].map fun (x : Nat × Operand) => (x.1, A.eval x.2)) = #[(0, Value.agg vs.toArray)] := by simp [hev]
    rw [hp]
    simp only [Instr.buildSlice, Sem.run_bind, run_underlying ht, run_sizeOf hi, Result.andThen_ok, if_neg hn, if_neg hn0, Sem.run_pure, run_zeroValue hi, hzz, hf]
    simp [newRow, newObj, Sem.run_bind, Sem.run]
  rw [show (#[(0, y)].map fun (x : Nat × Operand) => match x with | (i, x) => (i, A.eval x)) = (#[(0, y)].map fun (x : Nat × Operand) => (x.1, A.eval x.2)) from rfl, hb]
  rfl
theorem OW.pushS {z : Value} (hg1 : wantS ops σ gd1 = some true) (hd1 : Nat.blt d1 n = true) (hg : ∀ u, wantS ops ((d1, u) :: σ) gd = some true) (hd : Nat.blt d n = true) (ht : P.underlying t = some (.slice e)) (hi : TI P e z s bs) (hzs : z.cells.size = s) (hs0 : 0 < s) (hs : s ≤ 16777216)
    {v : Value} {vs : List Value} {l : Nat} {xs : List Value} (hy : ev σ y = some (.agg vs.toArray)) (hl : vs.length = s) (hx : ∀ q, ev ((d1, q) :: σ) x = some v) (hu : vs.all (·.oneCell') = true) (hext : Ext w0 w) (hown : Own w w0.heap.size e s v l xs)
    (h63 : l + 1 ≤ maxLen) (hbytes : (l + 1) * bs ≤ 140737488355328)
    (h : ∀ q v' w', Own w' w0.heap.size e s v' (l + 1) (xs ++ vs) → Ext w0 w' → w.grownBy w' v.ownBlock → OW P R ops rest k n ((d, v') :: (d1, q) :: σ) w') :
    OW P R ops (⟨some d1, .buildSlice t 1 #[(0, y)], ty1, pos1, after1, gd1⟩ :: ⟨some d, .call { callee := .builtin .append, args := #[x, .tmp d1], argTypes := #[t, t] }, ty, pos, after, gd⟩ :: rest) k n σ w := by
  refine OW.val hg1 hd1 (EX.buildSlice1 ht hi hzs hs0 hs hy hl) ?_
  have hx1 : Ext w0 (w.alloc (.cells vs.toArray e)) := hext.trans (Ext.alloc w _)
  have hb := Bk.new w e vs
  refine OW.appendX (hg _) hd ht hi hzs hs0 (hx _) (lk_cons_same _ _ _) hx1 (hown.alloc _) (Src.of_sl ht (Sl.of_bk hb hb.lt) (by omega) (fun u hm => List.all_eq_true.1 hu u hm) hs0) h63 hbytes ?_
  intro v' w' h1 h2 h3 h4
  refine h _ v' w' h1 h2 ⟨h3.os, h3.tape, h3.output, by have := h3.size; simp at this; omega, fun j hj hne => ?_⟩
  rw [h3.block j (by simp; omega) hne]
  exact Below.heap_alloc w _ j hj
end
end Go.Proofs.YtlpnoogcdnfllaaGreatDoor
namespace Go.Proofs.YtlpnoogcdnfllaaGreatDoor
open Go.RowKit Rec
def _root_.Go.Proofs.YtlpnoogcdnfllaaGreatDoor.Rec.R.cells (x : R) : List Value := [.int .u8 (x.kind : Int), .int .i64 x.gen, .int .i64 x.index, str x.data]
theorem numI_small (s : List UInt8) (h : s.length ≤ 4) : numI s = (nb s : Int) := by
  have h1 : nb s < 256 ^ 4 := Nat.lt_of_lt_of_le (nb_lt _ s rfl) (Nat.pow_le_pow_right (by decide) h)
  unfold numI
  rw [if_pos (by omega)]
theorem dec_none {s : List UInt8} (h : ¬ (s.length = 512 ∧ nb ((s.drop 17).take 2) ≤ 486 ∧ encodeR (decR s).kind (decR s).gen (decR s).index (decR s).data = (s, 0))) : decodeR s = (R0, 200) := by
  unfold decodeR
  rw [if_neg h]
theorem dec_some {s : List UInt8} (h : s.length = 512 ∧ nb ((s.drop 17).take 2) ≤ 486 ∧ encodeR (decR s).kind (decR s).gen (decR s).index (decR s).data = (s, 0)) : decodeR s = (decR s, 0) := by
  unfold decodeR
  rw [if_pos h]
theorem enc_magic {k : Nat} {g i : Int} {d s : List UInt8} (h : encodeR k g i d = (s, 0)) : s.take 4 = [75, 73, 83, 84] := by
  unfold encodeR at h
  split at h
  · simp at h
  · simp only [Prod.mk.injEq, and_true] at h
    rw [← h]
    rfl
set_option maxRecDepth 20000 in
theorem decode_s (s : List UInt8) (w : World) :
    Ret Tryz.prog 28 [str s] w fun v w' => v = .tuple #[.agg (decodeR s).1.cells.toArray, .int .i64 (((decodeR s).2 : Nat) : Int)] ∧ Ext w w' := by
  refine Ret.enter Tryz.func28 rfl Tryz.ntmps28 (by kernel_rfl) rfl ?_
  refine KW.seq (KW.region ?_)
  refine OW.allocB (l := [.int .u8 0, .int .i64 0, .int .i64 0, str []]) rfl rfl ti64 rfl ?_
  rintro cb w1 hge1 hc1 hx1
  refine OW.val rfl rfl (EX.assign rfl) ?_
  refine OW.nil ?_
  refine KW.seq (KW.seq (KW.region ?_))
  refine OW.val rfl rfl (EX.move rfl) ?_
  refine OW.val rfl rfl (EX.lenS Tryz.underlying9 rfl) ?_
  refine OW.val rfl rfl (by first | exact EX.neqN (b := 512) rfl rfl | exact EX.neqZ rfl rfl) ?_
  refine OW.nil ?_
  refine KW.condD rfl (fun a1 => ?_) (fun a1 => ?_)
  · have e := dec_none (s := s) (fun h => a1 (by omega))
    refine KW.seq (KW.region ?_)
    refine OW.val rfl rfl (EX.buildS (pl := [(0, 1), (1, 1), (2, 1), (3, 1)]) (ks := []) (is := []) (zs := [.int .u8 0, .int .i64 0, .int .i64 0, str []]) Tryz.underlying64 ti64 (by kernel_rfl) rfl rfl rfl (by first | rfl | (simp only [List.all_cons, List.all_nil, Bool.and_true, Bool.true_and, Bool.and_eq_true, Value.oneCell']; repeat (first | assumption | exact Own.one (by assumption) | constructor))) (by simp only [setAll, List.set_cons_zero, List.set_cons_succ]; rfl)) ?_
    refine OW.storeS rfl ti64 rfl rfl rfl (by first | rfl | (simp only [List.all_cons, List.all_nil, Bool.and_true, Bool.true_and, Bool.and_eq_true, Value.oneCell']; repeat (first | assumption | exact Own.one (by assumption) | constructor))) (hc1) (by simp) ?_
    rintro w2 hb2 hm2
    refine OW.val rfl rfl (EX.assign rfl) ?_
    refine OW.nil ?_
    refine KW.ret (retC2 rfl Tryz.underlying64 rfl ti64 rfl rfl (hb2) rfl ?_)
    rw [e]
    exact ⟨rfl, below_mo hx1 hm2 hx1.size (fun k hk => by simp at hk; omega)⟩
  · have hl : s.length = 512 := by omega
    refine KW.skip (KW.seq (KW.region ?_))
    refine OW.val rfl rfl (EX.move rfl) ?_
    refine OW.val rfl rfl (EX.buildS (pl := [(0, 1)]) (ks := [0]) (is := [0]) (zs := [str []]) Tryz.underlying89 ti89 (by kernel_rfl) rfl rfl rfl (by first | rfl | (simp only [List.all_cons, List.all_nil, Bool.and_true, Bool.true_and, Bool.and_eq_true, Value.oneCell']; repeat (first | assumption | exact Own.one (by assumption) | constructor))) (by simp only [setAll, List.set_cons_zero, List.set_cons_succ]; rfl)) ?_
    refine OW.val rfl rfl (EX.buildG (pl := [(0, 1)]) (ks := [0]) (zs := [str []]) Tryz.underlying91 ti91 (by kernel_rfl) rfl rfl rfl) ?_
    refine OW.boxS rfl rfl rfl ?_
    rintro rb w3 hge3 hr3 hx3
    refine OW.val rfl rfl (EX.assign rfl) ?_
    refine OW.nil ?_
    refine KW.seq (KW.region ?_)
    refine OW.val rfl rfl (EX.move rfl) ?_
    refine OW.val rfl rfl (EX.nilCheck rfl) ?_
    refine OW.val rfl rfl (EX.fieldAddr (off := 0) Tryz.underlying91 rfl rfl ti89 rfl rfl) ?_
    have hc3 := hc1.ext hx3
    have x3 := hx1.trans hx3
    have hrw : w.heap.size ≤ rb := by have := hx1.size; omega
    refine OW.call rfl rfl rfl (take_s rb 4 s _ w3 hr3 (by omega) (by omega)) ?_
    rintro _ w4 ⟨rfl, hr4, hm4⟩
    refine OW.val rfl rfl (EX.assign rfl) ?_
    refine OW.nil ?_
    refine KW.seq ?_
    have hc4 := hc3.mo hm4 (by simp; exact hc3.ne hr3 (by decide))
    have x4 : Ext w w4 := below_mo x3 hm4 x3.size (fun k hk => by simp at hk; omega)
    have k4 : ((s.drop 4).take 1)[0]? = some (s.getD 4 0) := by simp [List.getElem?_drop, List.getD, hl]
    have d5 : (s.drop 4).drop 1 = s.drop 5 := by rw [List.drop_drop]
    have d13 : (s.drop 5).drop 8 = s.drop 13 := by rw [List.drop_drop]
    have d17 : (s.drop 13).drop 4 = s.drop 17 := by rw [List.drop_drop]
    have d19 : (s.drop 17).drop 2 = s.drop 19 := by rw [List.drop_drop]
    have ln : ∀ j, (s.drop j).length ≤ 1000000000000 := fun j => by rw [List.length_drop]; omega
    refine KW.cut2 (fun (xb : Nat) (wr : World) => Ext w wr ∧ w.heap.size ≤ xb ∧ Bk wr rb 91 [str (s.drop 17)] ∧ Bk wr cb 64 R0.cells ∧ Bk wr xb 64 [.int .u8 (((s.getD 4 0).toNat : Nat) : Int), .int .i64 (numI ((s.drop 5).take 8)), .int .i64 (numI ((s.drop 13).take 4)), str []] ∧ xb ≠ cb) (fun (xb : Nat) (wr : World) => [(0, str (s)), (2, .pointer (some ⟨cb, 0, none⟩)), (4, .pointer (some ⟨rb, 0, none⟩)), (5, str ((s.take 4))), (6, .pointer (some ⟨xb, 0, none⟩))]) (fun (xb : Nat) (wr : World) => wr) ?_ ?_
    · skip
      refine KW.regionG (N := 12) (fun w' => Ext w w') (by kernel_rfl) rfl ?_
      have hS : (fun w' => Ext w w') w4.drew := x4.trans (Ext.drew w4)
      have hr4 := hr4.ext (Ext.drew _)
      have hc4 := hc4.ext (Ext.drew _)
      refine GW.val 0 rfl (by kernel_rfl) (by kernel_rfl) (by kernel_rfl) rfl rfl hS (fun w' hS' => EX.move rfl) ?_
      refine GW.val 1 rfl (by kernel_rfl) (by kernel_rfl) (by kernel_rfl) rfl rfl hS (fun w' hS' => EX.nilCheck rfl) ?_
      refine GW.val 2 rfl (by kernel_rfl) (by kernel_rfl) (by kernel_rfl) rfl rfl hS (fun w' hS' => EX.fieldAddr (off := 0) Tryz.underlying91 rfl rfl ti89 rfl rfl) ?_
      refine GW.val 5 rfl (by kernel_rfl) (by kernel_rfl) (by kernel_rfl) rfl rfl hS (fun w' hS' => EX.move rfl) ?_
      refine GW.val 7 rfl (by kernel_rfl) (by kernel_rfl) (by kernel_rfl) rfl rfl hS (fun w' hS' => EX.move rfl) ?_
      refine GW.two 3 10 (by kernel_rfl) ?_ ?_
      · refine GO.call 3 rfl rfl rfl rfl (take_s rb 1 (s.drop 4) _ w4.drew hr4 (by omega) (ln 4)) ?_
        rintro _ w3 ⟨rfl, hb3, hm3⟩
        have hc4 := hc4.mo hm3 (by simp; exact hc4.ne hr4 (by decide))
        refine ⟨below_mo hS hm3 hS.size (fun k hk => by simp at hk; omega), fun hS => ?_⟩
        rw [d5] at hb3
        refine GW.val 4 rfl (by kernel_rfl) (by kernel_rfl) (by kernel_rfl) rfl rfl hS (fun w' hS' => EX.indexS (i := 0) Tryz.underlying9 rfl rfl k4) ?_
        refine GW.two 6 10 (by kernel_rfl) ?_ ?_
        · refine GO.call 6 rfl rfl rfl rfl (num_s rb 8 (s.drop 5) _ w3 hb3 (by omega) (ln 5)) ?_
          rintro _ w6 ⟨rfl, hb6, hm6⟩
          have hc4 := hc4.mo hm6 (by simp; exact hc4.ne hb3 (by decide))
          refine ⟨below_mo hS hm6 hS.size (fun k hk => by simp at hk; omega), fun hS => ?_⟩
          rw [d13] at hb6
          refine GW.two 8 10 (by kernel_rfl) ?_ ?_
          · refine GO.call 8 rfl rfl rfl rfl (num_s rb 4 (s.drop 13) _ w6 hb6 (by omega) (ln 13)) ?_
            rintro _ w8 ⟨rfl, hb8, hm8⟩
            have hc4 := hc4.mo hm8 (by simp; exact hc4.ne hb6 (by decide))
            refine ⟨below_mo hS hm8 hS.size (fun k hk => by simp at hk; omega), fun hS => ?_⟩
            rw [d17] at hb8
            refine GW.val 9 rfl (by kernel_rfl) (by kernel_rfl) (by kernel_rfl) rfl rfl hS (fun w' hS' => EX.buildS (pl := [(0, 1), (1, 1), (2, 1), (3, 1)]) (ks := [0, 1, 2]) (is := [0, 1, 2]) (zs := [.int .u8 0, .int .i64 0, .int .i64 0, str []]) Tryz.underlying64 ti64 (by kernel_rfl) rfl rfl rfl (by first | rfl | (simp only [List.all_cons, List.all_nil, Bool.and_true, Bool.true_and, Bool.and_eq_true, Value.oneCell']; repeat (first | assumption | exact Own.one (by assumption) | constructor))) (by simp only [setAll, List.set_cons_zero, List.set_cons_succ]; rfl)) ?_
            refine GW.allocB (l := [.int .u8 0, .int .i64 0, .int .i64 0, str []]) 10 rfl (by kernel_rfl) rfl rfl ti64 rfl ?_
            rintro xb w10 hge10 h10 hx10
            have hne : xb ≠ cb := fun q => (by have := hc4.lt; omega)
            have hxge : w.heap.size ≤ xb := (by have := hS.size; omega)
            refine ⟨hS.trans hx10, fun hS => ?_⟩
            have hc4 := hc4.ext hx10
            have hb8 := hb8.ext hx10
            refine GW.storeS 11 rfl (by kernel_rfl) rfl ti64 rfl rfl rfl (by first | rfl | (simp only [List.all_cons, List.all_nil, Bool.and_true, Bool.true_and, Bool.and_eq_true, Value.oneCell']; repeat (first | assumption | constructor))) (h10) (by simp) ?_
            rintro w11 hb11 hm11
            refine ⟨below_mo hS hm11 hS.size (fun k hk => by simp at hk; omega), fun hS => ?_⟩
            have hc4 := hc4.mo hm11 (by simp; exact Ne.symm hne)
            have hr11 := hb8.mo hm11 (by simp; exact hb8.ne h10 (by decide))
            refine GW.done (by kernel_rfl) ?_
            refine KW.meet2 xb w11 ⟨rfl, rfl, rfl, rfl, rfl, trivial⟩ rfl ?_
            exact ⟨hS, hxge, hr11, hc4, hb11, hne⟩
          · refine GO.allocB (l := [.int .u8 0, .int .i64 0, .int .i64 0, str []]) 10 rfl rfl rfl ti64 rfl ?_
            rintro xb w10 hge10 h10 hx10
            have hne : xb ≠ cb := fun q => (by have := hc4.lt; omega)
            have hxge : w.heap.size ≤ xb := (by have := hS.size; omega)
            refine ⟨hS.trans hx10, fun hS => ?_⟩
            have hc4 := hc4.ext hx10
            have hb6 := hb6.ext hx10
            refine GW.call 8 rfl (by kernel_rfl) rfl rfl rfl (num_s rb 4 (s.drop 13) _ w10 hb6 (by omega) (ln 13)) ?_
            rintro _ w8 ⟨rfl, hb8, hm8⟩
            have hc4 := hc4.mo hm8 (by simp; exact hc4.ne hb6 (by decide))
            have h10 := h10.mo hm8 (by simp; exact h10.ne hb6 (by decide))
            refine ⟨below_mo hS hm8 hS.size (fun k hk => by simp at hk; omega), fun hS => ?_⟩
            rw [d17] at hb8
            refine GW.val 9 rfl (by kernel_rfl) (by kernel_rfl) (by kernel_rfl) rfl rfl hS (fun w' hS' => EX.buildS (pl := [(0, 1), (1, 1), (2, 1), (3, 1)]) (ks := [0, 1, 2]) (is := [0, 1, 2]) (zs := [.int .u8 0, .int .i64 0, .int .i64 0, str []]) Tryz.underlying64 ti64 (by kernel_rfl) rfl rfl rfl (by first | rfl | (simp only [List.all_cons, List.all_nil, Bool.and_true, Bool.true_and, Bool.and_eq_true, Value.oneCell']; repeat (first | assumption | exact Own.one (by assumption) | constructor))) (by simp only [setAll, List.set_cons_zero, List.set_cons_succ]; rfl)) ?_
            refine GW.storeS 11 rfl (by kernel_rfl) rfl ti64 rfl rfl rfl (by first | rfl | (simp only [List.all_cons, List.all_nil, Bool.and_true, Bool.true_and, Bool.and_eq_true, Value.oneCell']; repeat (first | assumption | constructor))) (h10) (by simp) ?_
            rintro w11 hb11 hm11
            refine ⟨below_mo hS hm11 hS.size (fun k hk => by simp at hk; omega), fun hS => ?_⟩
            have hc4 := hc4.mo hm11 (by simp; exact Ne.symm hne)
            have hr11 := hb8.mo hm11 (by simp; exact hb8.ne h10 (by decide))
            refine GW.done (by kernel_rfl) ?_
            refine KW.meet2 xb w11 ⟨rfl, rfl, rfl, rfl, rfl, trivial⟩ rfl ?_
            exact ⟨hS, hxge, hr11, hc4, hb11, hne⟩
        · refine GO.allocB (l := [.int .u8 0, .int .i64 0, .int .i64 0, str []]) 10 rfl rfl rfl ti64 rfl ?_
          rintro xb w10 hge10 h10 hx10
          have hne : xb ≠ cb := fun q => (by have := hc4.lt; omega)
          have hxge : w.heap.size ≤ xb := (by have := hS.size; omega)
          refine ⟨hS.trans hx10, fun hS => ?_⟩
          have hc4 := hc4.ext hx10
          have hb3 := hb3.ext hx10
          refine GW.call 6 rfl (by kernel_rfl) rfl rfl rfl (num_s rb 8 (s.drop 5) _ w10 hb3 (by omega) (ln 5)) ?_
          rintro _ w6 ⟨rfl, hb6, hm6⟩
          have hc4 := hc4.mo hm6 (by simp; exact hc4.ne hb3 (by decide))
          have h10 := h10.mo hm6 (by simp; exact h10.ne hb3 (by decide))
          refine ⟨below_mo hS hm6 hS.size (fun k hk => by simp at hk; omega), fun hS => ?_⟩
          rw [d13] at hb6
          refine GW.call 8 rfl (by kernel_rfl) rfl rfl rfl (num_s rb 4 (s.drop 13) _ w6 hb6 (by omega) (ln 13)) ?_
          rintro _ w8 ⟨rfl, hb8, hm8⟩
          have hc4 := hc4.mo hm8 (by simp; exact hc4.ne hb6 (by decide))
          have h10 := h10.mo hm8 (by simp; exact h10.ne hb6 (by decide))
          refine ⟨below_mo hS hm8 hS.size (fun k hk => by simp at hk; omega), fun hS => ?_⟩
          rw [d17] at hb8
          refine GW.val 9 rfl (by kernel_rfl) (by kernel_rfl) (by kernel_rfl) rfl rfl hS (fun w' hS' => EX.buildS (pl := [(0, 1), (1, 1), (2, 1), (3, 1)]) (ks := [0, 1, 2]) (is := [0, 1, 2]) (zs := [.int .u8 0, .int .i64 0, .int .i64 0, str []]) Tryz.underlying64 ti64 (by kernel_rfl) rfl rfl rfl (by first | rfl | (simp only [List.all_cons, List.all_nil, Bool.and_true, Bool.true_and, Bool.and_eq_true, Value.oneCell']; repeat (first | assumption | exact Own.one (by assumption) | constructor))) (by simp only [setAll, List.set_cons_zero, List.set_cons_succ]; rfl)) ?_
          refine GW.storeS 11 rfl (by kernel_rfl) rfl ti64 rfl rfl rfl (by first | rfl | (simp only [List.all_cons, List.all_nil, Bool.and_true, Bool.true_and, Bool.and_eq_true, Value.oneCell']; repeat (first | assumption | constructor))) (h10) (by simp) ?_
          rintro w11 hb11 hm11
          refine ⟨below_mo hS hm11 hS.size (fun k hk => by simp at hk; omega), fun hS => ?_⟩
          have hc4 := hc4.mo hm11 (by simp; exact Ne.symm hne)
          have hr11 := hb8.mo hm11 (by simp; exact hb8.ne h10 (by decide))
          refine GW.done (by kernel_rfl) ?_
          refine KW.meet2 xb w11 ⟨rfl, rfl, rfl, rfl, rfl, trivial⟩ rfl ?_
          exact ⟨hS, hxge, hr11, hc4, hb11, hne⟩
      · refine GO.allocB (l := [.int .u8 0, .int .i64 0, .int .i64 0, str []]) 10 rfl rfl rfl ti64 rfl ?_
        rintro xb w10 hge10 h10 hx10
        have hne : xb ≠ cb := fun q => (by have := hc4.lt; omega)
        have hxge : w.heap.size ≤ xb := (by have := hS.size; omega)
        refine ⟨hS.trans hx10, fun hS => ?_⟩
        have hc4 := hc4.ext hx10
        have hr4 := hr4.ext hx10
        refine GW.call 3 rfl (by kernel_rfl) rfl rfl rfl (take_s rb 1 (s.drop 4) _ w10 hr4 (by omega) (ln 4)) ?_
        rintro _ w3 ⟨rfl, hb3, hm3⟩
        have hc4 := hc4.mo hm3 (by simp; exact hc4.ne hr4 (by decide))
        have h10 := h10.mo hm3 (by simp; exact h10.ne hr4 (by decide))
        refine ⟨below_mo hS hm3 hS.size (fun k hk => by simp at hk; omega), fun hS => ?_⟩
        rw [d5] at hb3
        refine GW.val 4 rfl (by kernel_rfl) (by kernel_rfl) (by kernel_rfl) rfl rfl hS (fun w' hS' => EX.indexS (i := 0) Tryz.underlying9 rfl rfl k4) ?_
        refine GW.call 6 rfl (by kernel_rfl) rfl rfl rfl (num_s rb 8 (s.drop 5) _ w3 hb3 (by omega) (ln 5)) ?_
        rintro _ w6 ⟨rfl, hb6, hm6⟩
        have hc4 := hc4.mo hm6 (by simp; exact hc4.ne hb3 (by decide))
        have h10 := h10.mo hm6 (by simp; exact h10.ne hb3 (by decide))
        refine ⟨below_mo hS hm6 hS.size (fun k hk => by simp at hk; omega), fun hS => ?_⟩
        rw [d13] at hb6
        refine GW.call 8 rfl (by kernel_rfl) rfl rfl rfl (num_s rb 4 (s.drop 13) _ w6 hb6 (by omega) (ln 13)) ?_
        rintro _ w8 ⟨rfl, hb8, hm8⟩
        have hc4 := hc4.mo hm8 (by simp; exact hc4.ne hb6 (by decide))
        have h10 := h10.mo hm8 (by simp; exact h10.ne hb6 (by decide))
        refine ⟨below_mo hS hm8 hS.size (fun k hk => by simp at hk; omega), fun hS => ?_⟩
        rw [d17] at hb8
        refine GW.val 9 rfl (by kernel_rfl) (by kernel_rfl) (by kernel_rfl) rfl rfl hS (fun w' hS' => EX.buildS (pl := [(0, 1), (1, 1), (2, 1), (3, 1)]) (ks := [0, 1, 2]) (is := [0, 1, 2]) (zs := [.int .u8 0, .int .i64 0, .int .i64 0, str []]) Tryz.underlying64 ti64 (by kernel_rfl) rfl rfl rfl (by first | rfl | (simp only [List.all_cons, List.all_nil, Bool.and_true, Bool.true_and, Bool.and_eq_true, Value.oneCell']; repeat (first | assumption | exact Own.one (by assumption) | constructor))) (by simp only [setAll, List.set_cons_zero, List.set_cons_succ]; rfl)) ?_
        refine GW.storeS 11 rfl (by kernel_rfl) rfl ti64 rfl rfl rfl (by first | rfl | (simp only [List.all_cons, List.all_nil, Bool.and_true, Bool.true_and, Bool.and_eq_true, Value.oneCell']; repeat (first | assumption | constructor))) (h10) (by simp) ?_
        rintro w11 hb11 hm11
        refine ⟨below_mo hS hm11 hS.size (fun k hk => by simp at hk; omega), fun hS => ?_⟩
        have hc4 := hc4.mo hm11 (by simp; exact Ne.symm hne)
        have hr11 := hb8.mo hm11 (by simp; exact hb8.ne h10 (by decide))
        refine GW.done (by kernel_rfl) ?_
        refine KW.meet2 xb w11 ⟨rfl, rfl, rfl, rfl, rfl, trivial⟩ rfl ?_
        exact ⟨hS, hxge, hr11, hc4, hb11, hne⟩
    · rintro xb wr ⟨x5, hxge, hr5, hc5, hb5, hne⟩
      have hn4 : numI ((s.drop 17).take 2) = ((nb ((s.drop 17).take 2) : Nat) : Int) := numI_small _ (by rw [List.length_take]; omega)
      have hlast := ln 19
      refine KW.seq (KW.region ?_)
      refine OW.val rfl rfl (EX.move rfl) ?_
      refine OW.call rfl rfl rfl (num_s rb 2 (s.drop 17) _ wr hr5 (by omega) (ln 17)) ?_
      rintro _ w6 ⟨rfl, hr6, hm6⟩
      refine OW.val rfl rfl (EX.assign rfl) ?_
      refine OW.nil ?_
      refine KW.seq (KW.seq ?_)
      rw [d19] at hr6
      rw [hn4]
      have hc6 := hc5.mo hm6 (by simp; exact hc5.ne hr5 (by decide))
      have hb6 := hb5.mo hm6 (by simp; exact hb5.ne hr5 (by decide))
      have x6 : Ext w w6 := below_mo x5 hm6 x5.size (fun k hk => by simp at hk; omega)
      generalize hn : nb ((s.drop 17).take 2) = n
      have refuse : ¬ (s.length = 512 ∧ n ≤ 486 ∧ encodeR (decR s).kind (decR s).gen (decR s).index (decR s).data = (s, 0)) → ∀ w7, Bk w7 cb 64 R0.cells → Ext w w7 → (Value.tuple #[.agg R0.cells.toArray, .int .i64 ((200 : Nat) : Int)] = Value.tuple #[.agg (decodeR s).1.cells.toArray, .int .i64 (((decodeR s).2 : Nat) : Int)] ∧ Ext w w7) := fun h w7 _ hx => by
        rw [dec_none (by rw [hn]; exact h)]
        exact ⟨rfl, hx⟩
      have hset : ∀ w7 w8, Ext w w7 → Mo w7 w8 [cb] → Ext w w8 := fun w7 w8 h1 h2 => below_mo h1 h2 h1.size (fun k hk => by simp at hk; omega)
      refine KW.region ?_
      refine OW.val rfl rfl (EX.move rfl) ?_
      refine OW.val rfl rfl (EX.neqS (r := [75, 73, 83, 84]) rfl rfl) ?_
      refine OW.val rfl rfl (EX.move rfl) ?_
      refine OW.splitD 36 rfl (fun b1 => ?_) (fun b1 => ?_)
      · refine OW.pass rfl rfl ?_
        refine OW.pass rfl rfl ?_
        refine OW.val rfl rfl (EX.pickT rfl rfl) ?_
        refine OW.nil ?_
        refine KW.condT rfl (KW.seq (KW.region ?_))
        refine OW.val rfl rfl (EX.buildS (pl := [(0, 1), (1, 1), (2, 1), (3, 1)]) (ks := []) (is := []) (zs := [.int .u8 0, .int .i64 0, .int .i64 0, str []]) Tryz.underlying64 ti64 (by kernel_rfl) rfl rfl rfl (by first | rfl | (simp only [List.all_cons, List.all_nil, Bool.and_true, Bool.true_and, Bool.and_eq_true, Value.oneCell']; repeat (first | assumption | exact Own.one (by assumption) | constructor))) (by simp only [setAll, List.set_cons_zero, List.set_cons_succ]; rfl)) ?_
        refine OW.storeS rfl ti64 rfl rfl rfl (by first | rfl | (simp only [List.all_cons, List.all_nil, Bool.and_true, Bool.true_and, Bool.and_eq_true, Value.oneCell']; repeat (first | assumption | exact Own.one (by assumption) | constructor))) (hc6) (by decide) ?_
        rintro w7 hb7 hm7
        refine OW.val rfl rfl (EX.assign rfl) ?_
        refine OW.nil ?_
        refine KW.ret (retC2 rfl Tryz.underlying64 rfl ti64 rfl rfl (hb7) rfl ?_)
        exact refuse (fun h => b1 (enc_magic h.2.2)) _ hb7 (hset _ _ x6 hm7)
      · refine OW.val rfl rfl (EX.move rfl) ?_
        refine OW.val rfl rfl (by first | exact EX.gtrN (b := 486) rfl rfl | exact EX.gtrZ rfl rfl) ?_
        refine OW.val rfl rfl (EX.pickF rfl rfl) ?_
        refine OW.nil ?_
        refine KW.condD rfl (fun b2 => ?_) (fun b2 => ?_)
        · refine KW.seq (KW.region ?_)
          refine OW.val rfl rfl (EX.buildS (pl := [(0, 1), (1, 1), (2, 1), (3, 1)]) (ks := []) (is := []) (zs := [.int .u8 0, .int .i64 0, .int .i64 0, str []]) Tryz.underlying64 ti64 (by kernel_rfl) rfl rfl rfl (by first | rfl | (simp only [List.all_cons, List.all_nil, Bool.and_true, Bool.true_and, Bool.and_eq_true, Value.oneCell']; repeat (first | assumption | exact Own.one (by assumption) | constructor))) (by simp only [setAll, List.set_cons_zero, List.set_cons_succ]; rfl)) ?_
          refine OW.storeS rfl ti64 rfl rfl rfl (by first | rfl | (simp only [List.all_cons, List.all_nil, Bool.and_true, Bool.true_and, Bool.and_eq_true, Value.oneCell']; repeat (first | assumption | exact Own.one (by assumption) | constructor))) (hc6) (by decide) ?_
          rintro w7 hb7 hm7
          refine OW.val rfl rfl (EX.assign rfl) ?_
          refine OW.nil ?_
          refine KW.ret (retC2 rfl Tryz.underlying64 rfl ti64 rfl rfl (hb7) rfl ?_)
          exact refuse (fun h => by omega) _ hb7 (hset _ _ x6 hm7)
        · refine KW.skip (KW.seq (KW.region ?_))
          refine OW.val rfl rfl (EX.move rfl) ?_
          refine OW.val rfl rfl (EX.nilCheck rfl) ?_
          refine OW.val rfl rfl (EX.fieldAddr (off := 0) Tryz.underlying91 rfl rfl ti89 rfl rfl) ?_
          refine OW.val rfl rfl (EX.move rfl) ?_
          refine OW.call rfl rfl rfl (take_s rb n (s.drop 19) _ w6 hr6 (by omega) (ln 19)) ?_
          rintro _ w7 ⟨rfl, hr7, hm7⟩
          refine OW.val rfl rfl (EX.fieldAddr (off := 3) Tryz.underlying64 rfl rfl ti9 rfl rfl) ?_
          have hc7 := hc6.mo hm7 (by simp; exact hc6.ne hr6 (by decide))
          have hb7 := hb6.mo hm7 (by simp; exact hb6.ne hr6 (by decide))
          have x7 : Ext w w7 := below_mo x6 hm7 x6.size (fun k hk => by simp at hk; omega)
          refine OW.storeB rfl ti9 rfl rfl (by first | rfl | assumption | exact Own.one (by assumption)) (hb7) (by simp) ?_
          rintro w8 hb8 hm8
          refine OW.nil ?_
          refine KW.seq (KW.seq (KW.region ?_))
          refine OW.val rfl rfl (EX.fieldAddr (off := 0) Tryz.underlying64 rfl rfl ti5 rfl rfl) ?_
          have hc8 := hc7.mo hm8 (by simp; exact Ne.symm hne)
          have x8 : Ext w w8 := below_mo x7 hm8 x7.size (fun k hk => by simp at hk; omega)
          have hdec : decR s = ⟨(s.getD 4 0).toNat, numI ((s.drop 5).take 8), numI ((s.drop 13).take 4), (s.drop 19).take n⟩ := by unfold decR; rw [hn]
          replace hb8 : Bk w8 xb 64 (decR s).cells := by rw [hdec]; exact hb8
          refine OW.val rfl rfl (EX.load Tryz.underlying5 rfl rfl (hb8.cell_of rfl)) ?_
          refine OW.val rfl rfl (EX.fieldAddr (off := 1) Tryz.underlying64 rfl rfl ti3 rfl rfl) ?_
          refine OW.val rfl rfl (EX.load Tryz.underlying3 rfl rfl (hb8.cell_of rfl)) ?_
          refine OW.val rfl rfl (EX.fieldAddr (off := 2) Tryz.underlying64 rfl rfl ti3 rfl rfl) ?_
          refine OW.val rfl rfl (EX.load Tryz.underlying3 rfl rfl (hb8.cell_of rfl)) ?_
          refine OW.val rfl rfl (EX.fieldAddr (off := 3) Tryz.underlying64 rfl rfl ti9 rfl rfl) ?_
          refine OW.val rfl rfl (EX.load Tryz.underlying9 rfl rfl (hb8.cell_of rfl)) ?_
          have hk : (decR s).kind ≤ 255 := by rw [hdec]; have := (s.getD 4 0).toNat_lt; show (s.getD 4 0).toNat ≤ 255; omega
          have hdl : (decR s).data.length ≤ 140737488355328 := by rw [hdec]; show ((s.drop 19).take n).length ≤ _; rw [List.length_take]; omega
          refine OW.call rfl rfl rfl (encode_s (decR s).kind hk (decR s).gen (decR s).index (decR s).data hdl w8) ?_
          rintro _ w9 ⟨rfl, hx9⟩
          refine OW.val rfl rfl (EX.move rfl) ?_
          refine OW.val rfl rfl (EX.extract rfl rfl) ?_
          refine OW.val rfl rfl (EX.extract rfl rfl) ?_
          refine OW.val rfl rfl (EX.assign rfl) ?_
          refine OW.val rfl rfl (EX.assign rfl) ?_
          refine OW.nil ?_
          refine KW.seq ?_
          have hc9 := hc8.ext hx9
          have hb9 := hb8.ext hx9
          have x9 := x8.trans hx9
          rcases he : encodeR (decR s).kind (decR s).gen (decR s).index (decR s).data with ⟨t, e⟩
          rw [he] at refuse
          refine KW.region ?_
          refine OW.val rfl rfl (EX.move rfl) ?_
          refine OW.val rfl rfl (by first | exact EX.neqN (b := 0) rfl rfl | exact EX.neqZ rfl rfl) ?_
          refine OW.val rfl rfl (EX.move rfl) ?_
          refine OW.splitD 61 rfl (fun g1 => ?_) (fun g1 => ?_)
          · refine OW.pass rfl rfl ?_
            refine OW.pass rfl rfl ?_
            refine OW.pass rfl rfl ?_
            refine OW.val rfl rfl (EX.pickT rfl rfl) ?_
            refine OW.nil ?_
            refine KW.condT rfl (KW.seq (KW.region ?_))
            refine OW.val rfl rfl (EX.buildS (pl := [(0, 1), (1, 1), (2, 1), (3, 1)]) (ks := []) (is := []) (zs := [.int .u8 0, .int .i64 0, .int .i64 0, str []]) Tryz.underlying64 ti64 (by kernel_rfl) rfl rfl rfl (by first | rfl | (simp only [List.all_cons, List.all_nil, Bool.and_true, Bool.true_and, Bool.and_eq_true, Value.oneCell']; repeat (first | assumption | exact Own.one (by assumption) | constructor))) (by simp only [setAll, List.set_cons_zero, List.set_cons_succ]; rfl)) ?_
            refine OW.storeS rfl ti64 rfl rfl rfl (by first | rfl | (simp only [List.all_cons, List.all_nil, Bool.and_true, Bool.true_and, Bool.and_eq_true, Value.oneCell']; repeat (first | assumption | exact Own.one (by assumption) | constructor))) (hc9) (by decide) ?_
            rintro w10 hb10 hm10
            refine OW.val rfl rfl (EX.assign rfl) ?_
            refine OW.nil ?_
            refine KW.ret (retC2 rfl Tryz.underlying64 rfl ti64 rfl rfl (hb10) rfl ?_)
            exact refuse (fun h => by have := h.2.2; simp only [Prod.mk.injEq] at this; omega) _ hb10 (hset _ _ x9 hm10)
          · refine OW.val rfl rfl (EX.move rfl) ?_
            refine OW.val rfl rfl (EX.move rfl) ?_
            refine OW.val rfl rfl (EX.neqS rfl rfl) ?_
            refine OW.val rfl rfl (EX.pickF rfl rfl) ?_
            refine OW.nil ?_
            refine KW.condD rfl (fun g2 => ?_) (fun g2 => ?_)
            · refine KW.seq (KW.region ?_)
              refine OW.val rfl rfl (EX.buildS (pl := [(0, 1), (1, 1), (2, 1), (3, 1)]) (ks := []) (is := []) (zs := [.int .u8 0, .int .i64 0, .int .i64 0, str []]) Tryz.underlying64 ti64 (by kernel_rfl) rfl rfl rfl (by first | rfl | (simp only [List.all_cons, List.all_nil, Bool.and_true, Bool.true_and, Bool.and_eq_true, Value.oneCell']; repeat (first | assumption | exact Own.one (by assumption) | constructor))) (by simp only [setAll, List.set_cons_zero, List.set_cons_succ]; rfl)) ?_
              refine OW.storeS rfl ti64 rfl rfl rfl (by first | rfl | (simp only [List.all_cons, List.all_nil, Bool.and_true, Bool.true_and, Bool.and_eq_true, Value.oneCell']; repeat (first | assumption | exact Own.one (by assumption) | constructor))) (hc9) (by decide) ?_
              rintro w10 hb10 hm10
              refine OW.val rfl rfl (EX.assign rfl) ?_
              refine OW.nil ?_
              refine KW.ret (retC2 rfl Tryz.underlying64 rfl ti64 rfl rfl (hb10) rfl ?_)
              exact refuse (fun h => by have := h.2.2; simp only [Prod.mk.injEq] at this; exact g2 this.1) _ hb10 (hset _ _ x9 hm10)
            · refine KW.skip (KW.seq (KW.region ?_))
              refine OW.val rfl rfl (EX.loadBk Tryz.underlying64 rfl ti64 rfl (hb9) (rfl)) ?_
              refine OW.storeS rfl ti64 rfl rfl rfl (by first | rfl | (simp only [List.all_cons, List.all_nil, Bool.and_true, Bool.true_and, Bool.and_eq_true, Value.oneCell']; repeat (first | assumption | exact Own.one (by assumption) | constructor))) (hc9) (Nat.le_refl _) ?_
              rintro w10 hb10 hm10
              refine OW.val rfl rfl (EX.assign rfl) ?_
              refine OW.nil ?_
              refine KW.ret (retC2 rfl Tryz.underlying64 rfl ti64 rfl rfl (hb10) rfl ?_)
              rw [dec_some ⟨hl, by rw [hn]; omega, by rw [he]; simp only [Prod.mk.injEq]; exact ⟨by simpa using g2, by omega⟩⟩]
              exact ⟨rfl, hset _ _ x9 hm10⟩
end Go.Proofs.YtlpnoogcdnfllaaGreatDoor
namespace Go.Proofs.YtlpnoogcdnfllaaGreatDoor.Rec
open Go.Proofs.YtlpnoogcdnfllaaGreatDoor Pth
section
variable (k g i : Nat) (d : List UInt8)
def tl (k g i : Nat) (d : List UInt8) : List UInt8 := List.replicate (489 - d.length) 0 ++ be 4 (cieee (body k g i d))
theorem text_eq : text k g i d = [75, 73, 83, 84] ++ ([UInt8.ofNat k] ++ (be 8 g ++ (be 4 i ++ (be 2 d.length ++ (d ++ tl k g i d))))) := by
  unfold text tl
  rw [show body k g i d = [75, 73, 83, 84] ++ [UInt8.ofNat k] ++ be 8 g ++ be 4 i ++ be 2 d.length ++ (d ++ List.replicate (489 - d.length) 0) from rfl]
  simp only [List.append_assoc]
theorem text_drop5 : (text k g i d).drop 5 = be 8 g ++ (be 4 i ++ (be 2 d.length ++ (d ++ tl k g i d))) := by rw [text_eq]; rfl
theorem drop_more {a b : List UInt8} {s : List UInt8} {n m j : Nat} (h : s.drop n = a ++ b) (ha : a.length = m) (hj : n + m = j) : s.drop j = b := by
  rw [← hj, ← List.drop_drop, h, List.drop_left' ha]
theorem text_drop13 : (text k g i d).drop 13 = be 4 i ++ (be 2 d.length ++ (d ++ tl k g i d)) := drop_more (text_drop5 k g i d) (be_length 8 g) rfl
theorem text_drop17 : (text k g i d).drop 17 = be 2 d.length ++ (d ++ tl k g i d) := drop_more (text_drop13 k g i d) (be_length 4 i) rfl
theorem text_drop19 : (text k g i d).drop 19 = d ++ tl k g i d := drop_more (text_drop17 k g i d) (be_length 2 _) rfl
theorem text_k : (text k g i d).getD 4 0 = UInt8.ofNat k := by rw [text_eq]; rfl
end
theorem numI_be {w n : Nat} (h : n < 256 ^ w) (h2 : n < 9223372036854775808) : numI (be w n) = n := by
  unfold numI
  rw [nb_be w n h, if_pos h2]
theorem not_bad {k : Nat} {g i : Int} {d : List UInt8} (h : ¬ bad k g i d) : k ≠ 0 ∧ 0 ≤ g ∧ g ≤ 4611686018427387904 ∧ 0 ≤ i ∧ i ≤ 2147483647 ∧ d.length ≤ 486 := by
  unfold bad at h
  refine ⟨fun e => h (.inl e), ?_, ?_, ?_, ?_, ?_⟩ <;> omega
theorem decR_text {k : Nat} {g i : Int} {d : List UInt8} (hk : k ≤ 255) (h : ¬ bad k g i d) : decR (text k g.toNat i.toNat d) = ⟨k, g, i, d⟩ ∧ nb (((text k g.toNat i.toNat d).drop 17).take 2) = d.length := by
  obtain ⟨_, h1, h2, h3, h4, h5⟩ := not_bad h
  have e0 : ((text k g.toNat i.toNat d).getD 4 0).toNat = k := by rw [text_k]; simp; omega
  have e1 : numI (((text k g.toNat i.toNat d).drop 5).take 8) = g := by
    rw [text_drop5, List.take_left' (be_length _ _), numI_be (by simp only [Nat.reducePow]; omega) (by omega)]
    omega
  have e2 : numI (((text k g.toNat i.toNat d).drop 13).take 4) = i := by
    rw [text_drop13, List.take_left' (be_length _ _), numI_be (by simp only [Nat.reducePow]; omega) (by omega)]
    omega
  have e3 : nb (((text k g.toNat i.toNat d).drop 17).take 2) = d.length := by
    rw [text_drop17, List.take_left' (be_length _ _), nb_be _ _ (by simp only [Nat.reducePow]; omega)]
  refine ⟨?_, e3⟩
  unfold decR
  rw [e0, e1, e2, e3, text_drop19, List.take_left' rfl]
theorem dec_enc {k : Nat} {g i : Int} {d t : List UInt8} (hk : k ≤ 255) (h : encodeR k g i d = (t, 0)) : decodeR t = (⟨k, g, i, d⟩, 0) := by
  unfold encodeR at h
  split at h
  · simp at h
  · rename_i hb
    simp only [Prod.mk.injEq, and_true] at h
    subst h
    obtain ⟨e1, e2⟩ := decR_text hk hb
    have h5 := (not_bad hb).2.2.2.2.2
    unfold decodeR
    rw [e1, e2, if_pos]
    refine ⟨text_length _ _ _ _ h5, h5, ?_⟩
    unfold encodeR
    rw [if_neg hb]
structure M where
  path : List UInt8
  start : Int
  sectors : Int
  size : Int
  sum : Nat
  deriving DecidableEq
def mayM (m : M) : Prop := checkP m.path = 0 ∧ 30 ≤ m.start ∧ 1 ≤ m.sectors ∧ m.sectors ≤ 4096 ∧ m.start + m.sectors ≤ 4096 ∧ 0 ≤ m.size ∧ m.size ≤ 8192
instance (m : M) : Decidable (mayM m) := by unfold mayM; infer_instance
def checkM (m : M) : Nat := if mayM m then 0 else 200
def memberT (m : M) : List UInt8 := be 1 m.path.length ++ m.path ++ be 2 m.start.toNat ++ be 2 m.sectors.toNat ++ be 2 m.size.toNat ++ be 4 m.sum
def memberM (m : M) : List UInt8 × Nat := if mayM m then (memberT m, 0) else ([], 200)
theorem may_path {m : M} (h : mayM m) : m.path.length ≤ 120 ∧ m.path ≠ [] := by
  have h1 := h.1
  unfold checkP at h1
  split at h1
  · rename_i e
    unfold cleanP at e
    split at e
    · rename_i h2
      simp only [Prod.mk.injEq, and_true] at e
      rw [e] at h2
      exact ⟨h2.2.2.2, h2.2.2.1⟩
    · simp at e
  · simp at h1
theorem be_one (n : Nat) (h : n ≤ 255) : be 1 n = [UInt8.ofNat n] := by
  simp only [be, List.nil_append]
  rw [Nat.mod_eq_of_lt (by omega)]
end Go.Proofs.YtlpnoogcdnfllaaGreatDoor.Rec
namespace Go.Proofs.YtlpnoogcdnfllaaGreatDoor
open Go.RowKit Rec Pth
def _root_.Go.Proofs.YtlpnoogcdnfllaaGreatDoor.Rec.M.cells (m : M) : List Value := [str m.path, .int .i64 m.start, .int .i64 m.sectors, .int .i64 m.size, .int .u32 (m.sum : Int)]
structure _root_.Go.Proofs.YtlpnoogcdnfllaaGreatDoor.Rec.M.Ok (m : M) : Prop where
  path : m.path.length ≤ 1000000000000
  sum : m.sum ≤ 4294967295
theorem checkM_none {m : M} (h : ¬ mayM m) : checkM m = 200 := by unfold checkM; rw [if_neg h]
theorem checkM_some {m : M} (h : mayM m) : checkM m = 0 := by unfold checkM; rw [if_pos h]
theorem checkP_or (s : List UInt8) : checkP s = 0 ∨ checkP s = 140 := by unfold checkP; split <;> simp
theorem checkM_s (m : M) (hm : m.Ok) (w : World) : Ret Tryz.prog 60 [.agg m.cells.toArray] w fun v w' => v = .int .i64 ((checkM m : Nat) : Int) ∧ Ext w w' := by
  have hp := checkP_or m.path
  refine Ret.enter Tryz.func60 rfl Tryz.ntmps60 (by kernel_rfl) rfl ?_
  refine KW.seq (KW.region ?_)
  refine OW.boxS rfl rfl rfl ?_
  rintro mb w1 hge1 hm1 hx1
  refine OW.val rfl rfl (EX.assign rfl) ?_
  refine OW.nil ?_
  refine KW.seq (KW.seq ?_)
  replace hm1 : Bk w1 mb 27 m.cells := hm1
  refine KW.region ?_
  refine OW.val rfl rfl (EX.fieldAddr (off := 0) Tryz.underlying27 rfl rfl ti9 rfl rfl) ?_
  refine OW.val rfl rfl (EX.load Tryz.underlying9 rfl rfl (hm1.cell_of rfl)) ?_
  refine OW.call rfl rfl rfl (check_s m.path hm.path w1) ?_
  rintro _ w2 ⟨rfl, hx2⟩
  refine OW.val rfl rfl (by first | exact EX.neqN (b := 0) rfl rfl | exact EX.neqZ rfl rfl) ?_
  refine OW.val rfl rfl (EX.move rfl) ?_
  have hm2 := hm1.ext hx2
  refine OW.splitD 7 rfl (fun a0 => ?_) (fun a0 => ?_)
  · refine OW.pass rfl rfl ?_
    refine OW.pass rfl rfl ?_
    refine OW.pass rfl rfl ?_
    refine OW.val rfl rfl (EX.pickT rfl rfl) ?_
    refine OW.val rfl rfl (EX.move rfl) ?_
    refine OW.pass rfl rfl ?_
    refine OW.pass rfl rfl ?_
    refine OW.pass rfl rfl ?_
    refine OW.val rfl rfl (EX.pickT rfl rfl) ?_
    refine OW.val rfl rfl (EX.move rfl) ?_
    refine OW.pass rfl rfl ?_
    refine OW.pass rfl rfl ?_
    refine OW.pass rfl rfl ?_
    refine OW.val rfl rfl (EX.pickT rfl rfl) ?_
    refine OW.val rfl rfl (EX.move rfl) ?_
    refine OW.pass rfl rfl ?_
    refine OW.pass rfl rfl ?_
    refine OW.pass rfl rfl ?_
    refine OW.pass rfl rfl ?_
    refine OW.pass rfl rfl ?_
    refine OW.pass rfl rfl ?_
    refine OW.val rfl rfl (EX.pickT rfl rfl) ?_
    refine OW.val rfl rfl (EX.move rfl) ?_
    refine OW.pass rfl rfl ?_
    refine OW.pass rfl rfl ?_
    refine OW.pass rfl rfl ?_
    refine OW.val rfl rfl (EX.pickT rfl rfl) ?_
    refine OW.val rfl rfl (EX.move rfl) ?_
    refine OW.pass rfl rfl ?_
    refine OW.pass rfl rfl ?_
    refine OW.pass rfl rfl ?_
    refine OW.val rfl rfl (EX.pickT rfl rfl) ?_
    refine OW.nil ?_
    refine KW.condT rfl (KW.seq (KW.region ?_))
    refine OW.val rfl rfl (EX.assign rfl) ?_
    refine OW.nil ?_
    refine KW.ret (ret1 rfl rfl ?_)
    rw [checkM_none (fun h => by obtain ⟨h1, h2, h3, h4, h5, h6, h7⟩ := h; omega)]
    exact ⟨rfl, hx1.trans hx2⟩
  · refine OW.val rfl rfl (EX.fieldAddr (off := 1) Tryz.underlying27 rfl rfl ti3 rfl rfl) ?_
    refine OW.val rfl rfl (EX.load Tryz.underlying3 rfl rfl (hm2.cell_of rfl)) ?_
    refine OW.val rfl rfl (by first | exact EX.lssN (b := 30) rfl rfl | exact EX.lssZ rfl rfl) ?_
    refine OW.val rfl rfl (EX.pickF rfl rfl) ?_
    refine OW.val rfl rfl (EX.move rfl) ?_
    refine OW.splitD 12 rfl (fun a1 => ?_) (fun a1 => ?_)
    · refine OW.pass rfl rfl ?_
      refine OW.pass rfl rfl ?_
      refine OW.pass rfl rfl ?_
      refine OW.val rfl rfl (EX.pickT rfl rfl) ?_
      refine OW.val rfl rfl (EX.move rfl) ?_
      refine OW.pass rfl rfl ?_
      refine OW.pass rfl rfl ?_
      refine OW.pass rfl rfl ?_
      refine OW.val rfl rfl (EX.pickT rfl rfl) ?_
      refine OW.val rfl rfl (EX.move rfl) ?_
      refine OW.pass rfl rfl ?_
      refine OW.pass rfl rfl ?_
      refine OW.pass rfl rfl ?_
      refine OW.pass rfl rfl ?_
      refine OW.pass rfl rfl ?_
      refine OW.pass rfl rfl ?_
      refine OW.val rfl rfl (EX.pickT rfl rfl) ?_
      refine OW.val rfl rfl (EX.move rfl) ?_
      refine OW.pass rfl rfl ?_
      refine OW.pass rfl rfl ?_
      refine OW.pass rfl rfl ?_
      refine OW.val rfl rfl (EX.pickT rfl rfl) ?_
      refine OW.val rfl rfl (EX.move rfl) ?_
      refine OW.pass rfl rfl ?_
      refine OW.pass rfl rfl ?_
      refine OW.pass rfl rfl ?_
      refine OW.val rfl rfl (EX.pickT rfl rfl) ?_
      refine OW.nil ?_
      refine KW.condT rfl (KW.seq (KW.region ?_))
      refine OW.val rfl rfl (EX.assign rfl) ?_
      refine OW.nil ?_
      refine KW.ret (ret1 rfl rfl ?_)
      rw [checkM_none (fun h => by obtain ⟨h1, h2, h3, h4, h5, h6, h7⟩ := h; omega)]
      exact ⟨rfl, hx1.trans hx2⟩
    · refine OW.val rfl rfl (EX.fieldAddr (off := 2) Tryz.underlying27 rfl rfl ti3 rfl rfl) ?_
      refine OW.val rfl rfl (EX.load Tryz.underlying3 rfl rfl (hm2.cell_of rfl)) ?_
      refine OW.val rfl rfl (by first | exact EX.lssN (b := 1) rfl rfl | exact EX.lssZ rfl rfl) ?_
      refine OW.val rfl rfl (EX.pickF rfl rfl) ?_
      refine OW.val rfl rfl (EX.move rfl) ?_
      refine OW.splitD 17 rfl (fun a2 => ?_) (fun a2 => ?_)
      · refine OW.pass rfl rfl ?_
        refine OW.pass rfl rfl ?_
        refine OW.pass rfl rfl ?_
        refine OW.val rfl rfl (EX.pickT rfl rfl) ?_
        refine OW.val rfl rfl (EX.move rfl) ?_
        refine OW.pass rfl rfl ?_
        refine OW.pass rfl rfl ?_
        refine OW.pass rfl rfl ?_
        refine OW.pass rfl rfl ?_
        refine OW.pass rfl rfl ?_
        refine OW.pass rfl rfl ?_
        refine OW.val rfl rfl (EX.pickT rfl rfl) ?_
        refine OW.val rfl rfl (EX.move rfl) ?_
        refine OW.pass rfl rfl ?_
        refine OW.pass rfl rfl ?_
        refine OW.pass rfl rfl ?_
        refine OW.val rfl rfl (EX.pickT rfl rfl) ?_
        refine OW.val rfl rfl (EX.move rfl) ?_
        refine OW.pass rfl rfl ?_
        refine OW.pass rfl rfl ?_
        refine OW.pass rfl rfl ?_
        refine OW.val rfl rfl (EX.pickT rfl rfl) ?_
        refine OW.nil ?_
        refine KW.condT rfl (KW.seq (KW.region ?_))
        refine OW.val rfl rfl (EX.assign rfl) ?_
        refine OW.nil ?_
        refine KW.ret (ret1 rfl rfl ?_)
        rw [checkM_none (fun h => by obtain ⟨h1, h2, h3, h4, h5, h6, h7⟩ := h; omega)]
        exact ⟨rfl, hx1.trans hx2⟩
      · refine OW.val rfl rfl (EX.fieldAddr (off := 2) Tryz.underlying27 rfl rfl ti3 rfl rfl) ?_
        refine OW.val rfl rfl (EX.load Tryz.underlying3 rfl rfl (hm2.cell_of rfl)) ?_
        refine OW.val rfl rfl (by first | exact EX.gtrN (b := 4096) rfl rfl | exact EX.gtrZ rfl rfl) ?_
        refine OW.val rfl rfl (EX.pickF rfl rfl) ?_
        refine OW.val rfl rfl (EX.move rfl) ?_
        refine OW.splitD 22 rfl (fun a3 => ?_) (fun a3 => ?_)
        · refine OW.pass rfl rfl ?_
          refine OW.pass rfl rfl ?_
          refine OW.pass rfl rfl ?_
          refine OW.pass rfl rfl ?_
          refine OW.pass rfl rfl ?_
          refine OW.pass rfl rfl ?_
          refine OW.val rfl rfl (EX.pickT rfl rfl) ?_
          refine OW.val rfl rfl (EX.move rfl) ?_
          refine OW.pass rfl rfl ?_
          refine OW.pass rfl rfl ?_
          refine OW.pass rfl rfl ?_
          refine OW.val rfl rfl (EX.pickT rfl rfl) ?_
          refine OW.val rfl rfl (EX.move rfl) ?_
          refine OW.pass rfl rfl ?_
          refine OW.pass rfl rfl ?_
          refine OW.pass rfl rfl ?_
          refine OW.val rfl rfl (EX.pickT rfl rfl) ?_
          refine OW.nil ?_
          refine KW.condT rfl (KW.seq (KW.region ?_))
          refine OW.val rfl rfl (EX.assign rfl) ?_
          refine OW.nil ?_
          refine KW.ret (ret1 rfl rfl ?_)
          rw [checkM_none (fun h => by obtain ⟨h1, h2, h3, h4, h5, h6, h7⟩ := h; omega)]
          exact ⟨rfl, hx1.trans hx2⟩
        · refine OW.val rfl rfl (EX.fieldAddr (off := 1) Tryz.underlying27 rfl rfl ti3 rfl rfl) ?_
          refine OW.val rfl rfl (EX.load Tryz.underlying3 rfl rfl (hm2.cell_of rfl)) ?_
          refine OW.val rfl rfl (EX.fieldAddr (off := 2) Tryz.underlying27 rfl rfl ti3 rfl rfl) ?_
          refine OW.val rfl rfl (EX.load Tryz.underlying3 rfl rfl (hm2.cell_of rfl)) ?_
          refine OW.val rfl rfl (by first | exact EX.subN (a := 4096) (m := 9223372036854775807) rfl rfl rfl (by omega) | exact EX.subZ (m := 9223372036854775807) rfl rfl rfl rfl (by omega)) ?_
          refine OW.val rfl rfl (by first | exact EX.gtrN rfl rfl | exact EX.gtrZ rfl rfl) ?_
          refine OW.val rfl rfl (EX.pickF rfl rfl) ?_
          refine OW.val rfl rfl (EX.move rfl) ?_
          refine OW.splitD 30 rfl (fun a4 => ?_) (fun a4 => ?_)
          · refine OW.pass rfl rfl ?_
            refine OW.pass rfl rfl ?_
            refine OW.pass rfl rfl ?_
            refine OW.val rfl rfl (EX.pickT rfl rfl) ?_
            refine OW.val rfl rfl (EX.move rfl) ?_
            refine OW.pass rfl rfl ?_
            refine OW.pass rfl rfl ?_
            refine OW.pass rfl rfl ?_
            refine OW.val rfl rfl (EX.pickT rfl rfl) ?_
            refine OW.nil ?_
            refine KW.condT rfl (KW.seq (KW.region ?_))
            refine OW.val rfl rfl (EX.assign rfl) ?_
            refine OW.nil ?_
            refine KW.ret (ret1 rfl rfl ?_)
            rw [checkM_none (fun h => by obtain ⟨h1, h2, h3, h4, h5, h6, h7⟩ := h; omega)]
            exact ⟨rfl, hx1.trans hx2⟩
          · refine OW.val rfl rfl (EX.fieldAddr (off := 3) Tryz.underlying27 rfl rfl ti3 rfl rfl) ?_
            refine OW.val rfl rfl (EX.load Tryz.underlying3 rfl rfl (hm2.cell_of rfl)) ?_
            refine OW.val rfl rfl (by first | exact EX.lssN (b := 0) rfl rfl | exact EX.lssZ rfl rfl) ?_
            refine OW.val rfl rfl (EX.pickF rfl rfl) ?_
            refine OW.val rfl rfl (EX.move rfl) ?_
            refine OW.splitD 35 rfl (fun a5 => ?_) (fun a5 => ?_)
            · refine OW.pass rfl rfl ?_
              refine OW.pass rfl rfl ?_
              refine OW.pass rfl rfl ?_
              refine OW.val rfl rfl (EX.pickT rfl rfl) ?_
              refine OW.nil ?_
              refine KW.condT rfl (KW.seq (KW.region ?_))
              refine OW.val rfl rfl (EX.assign rfl) ?_
              refine OW.nil ?_
              refine KW.ret (ret1 rfl rfl ?_)
              rw [checkM_none (fun h => by obtain ⟨h1, h2, h3, h4, h5, h6, h7⟩ := h; omega)]
              exact ⟨rfl, hx1.trans hx2⟩
            · refine OW.val rfl rfl (EX.fieldAddr (off := 3) Tryz.underlying27 rfl rfl ti3 rfl rfl) ?_
              refine OW.val rfl rfl (EX.load Tryz.underlying3 rfl rfl (hm2.cell_of rfl)) ?_
              refine OW.val rfl rfl (by first | exact EX.gtrN (b := 8192) rfl rfl | exact EX.gtrZ rfl rfl) ?_
              refine OW.val rfl rfl (EX.pickF rfl rfl) ?_
              refine OW.nil ?_
              refine KW.condD rfl (fun a6 => ?_) (fun a6 => ?_)
              · refine KW.seq (KW.region ?_)
                refine OW.val rfl rfl (EX.assign rfl) ?_
                refine OW.nil ?_
                refine KW.ret (ret1 rfl rfl ?_)
                rw [checkM_none (fun h => by obtain ⟨h1, h2, h3, h4, h5, h6, h7⟩ := h; omega)]
                exact ⟨rfl, hx1.trans hx2⟩
              · refine KW.skip (KW.seq (KW.region ?_))
                refine OW.val rfl rfl (EX.assign rfl) ?_
                refine OW.nil ?_
                refine KW.ret (ret1 rfl rfl ?_)
                rw [checkM_some ⟨by omega, by omega, by omega, by omega, by omega, by omega, by omega⟩]
                exact ⟨rfl, hx1.trans hx2⟩
end Go.Proofs.YtlpnoogcdnfllaaGreatDoor
namespace Go.Proofs.YtlpnoogcdnfllaaGreatDoor
open Go.RowKit Rec Pth
theorem memberM_none {m : M} (h : ¬ mayM m) : memberM m = ([], 200) := by unfold memberM; rw [if_neg h]
theorem memberM_some {m : M} (h : mayM m) : memberM m = (memberT m, 0) := by unfold memberM; rw [if_pos h]
set_option maxRecDepth 20000 in
theorem member_s (m : M) (hm : m.Ok) (w : World) : Ret Tryz.prog 36 [.agg m.cells.toArray] w fun v w' => v = .tuple #[str (memberM m).1, .int .i64 (((memberM m).2 : Nat) : Int)] ∧ Ext w w' := by
  refine Ret.enter Tryz.func36 rfl Tryz.ntmps36 (by kernel_rfl) rfl ?_
  refine KW.seq (KW.region ?_)
  refine OW.boxS rfl rfl rfl ?_
  rintro mb w1 hge1 hm1 hx1
  refine OW.val rfl rfl (EX.assign rfl) ?_
  refine OW.val rfl rfl (EX.assign rfl) ?_
  refine OW.nil ?_
  refine KW.seq (KW.seq (KW.region ?_))
  replace hm1 : Bk w1 mb 27 m.cells := hm1
  refine OW.val rfl rfl (EX.loadBk Tryz.underlying27 rfl ti27 rfl (hm1) (rfl)) ?_
  refine OW.call rfl rfl rfl (checkM_s m hm w1) ?_
  rintro _ w2 ⟨rfl, hx2⟩
  refine OW.val rfl rfl (EX.assign rfl) ?_
  refine OW.nil ?_
  refine KW.seq (KW.region ?_)
  refine OW.val rfl rfl (EX.move rfl) ?_
  refine OW.val rfl rfl (by first | exact EX.neqN (b := 0) rfl rfl | exact EX.neqZ rfl rfl) ?_
  refine OW.nil ?_
  have hm2 := hm1.ext hx2
  have x2 := hx1.trans hx2
  by_cases h : mayM m
  · rw [checkM_some h]
    refine KW.condD rfl (fun c1 => ?_) (fun c1 => ?_)
    · omega
    · obtain ⟨hpl, _⟩ := may_path h
      have hh := h
      obtain ⟨_, h2, h3, h4, h5, h6, h7⟩ := h
      obtain ⟨st, est⟩ := Int.eq_ofNat_of_zero_le (show 0 ≤ m.start by omega)
      obtain ⟨se, ese⟩ := Int.eq_ofNat_of_zero_le (show 0 ≤ m.sectors by omega)
      obtain ⟨sz, esz⟩ := Int.eq_ofNat_of_zero_le (show 0 ≤ m.size by omega)
      have hsum := hm.sum
      have hcells : m.cells = [str m.path, .int .i64 (st : Int), .int .i64 (se : Int), .int .i64 (sz : Int), .int .u32 (m.sum : Int)] := by unfold M.cells; rw [est, ese, esz]
      have hmt : memberT m = be 1 m.path.length ++ m.path ++ be 2 st ++ be 2 se ++ be 2 sz ++ be 4 m.sum := by unfold memberT; rw [est, ese, esz]; rfl
      rw [hcells] at hm2
      have l1 := be_length 1 m.path.length
      have l2 := be_length 2 st
      have l3 := be_length 2 se
      have l4 := be_length 2 sz
      have l5 := be_length 4 m.sum
      rw [memberM_some hh, hmt]
      refine KW.skip (KW.seq ?_)
      refine KW.cut1 (fun (wr : World) => Ext w wr) (fun (wr : World) => [(2, str (be 1 m.path.length ++ m.path ++ be 2 st ++ be 2 se ++ be 2 sz ++ be 4 m.sum)), (3, .int .i64 ((0 : Nat) : Int))]) (fun (wr : World) => wr) ?_ ?_
      · skip
        refine KW.regionG (N := 30) (fun w' => Ext w w' ∧ Bk w' mb 27 [str m.path, .int .i64 (st : Int), .int .i64 (se : Int), .int .i64 (sz : Int), .int .u32 (m.sum : Int)]) (by kernel_rfl) rfl ?_
        have hS : (fun w' => Ext w w' ∧ Bk w' mb 27 [str m.path, .int .i64 (st : Int), .int .i64 (se : Int), .int .i64 (sz : Int), .int .u32 (m.sum : Int)]) w2.drew := ⟨x2.trans (Ext.drew w2), hm2.drew⟩
        refine GW.val 0 rfl (by kernel_rfl) (by kernel_rfl) (by kernel_rfl) rfl rfl hS (fun w' hS' => EX.fieldAddr (off := 0) Tryz.underlying27 rfl rfl ti9 rfl rfl) ?_
        refine GW.val 1 rfl (by kernel_rfl) (by kernel_rfl) (by kernel_rfl) rfl rfl hS (fun w' hS' => EX.load Tryz.underlying9 rfl rfl (hS'.2.cell_of rfl)) ?_
        refine GW.val 2 rfl (by kernel_rfl) (by kernel_rfl) (by kernel_rfl) rfl rfl hS (fun w' hS' => EX.lenS Tryz.underlying9 rfl) ?_
        refine GW.val 3 rfl (by kernel_rfl) (by kernel_rfl) (by kernel_rfl) rfl rfl hS (fun w' hS' => by first | exact EX.convN (m := 18446744073709551615) Tryz.underlying3 Tryz.underlying82 rfl rfl (by omega) | exact EX.convW (m := 18446744073709551616) Tryz.underlying3 Tryz.underlying82 rfl rfl (by decide) | exact EX.convZ Tryz.underlying3 Tryz.underlying82 rfl) ?_
        refine GW.val 5 rfl (by kernel_rfl) (by kernel_rfl) (by kernel_rfl) rfl rfl hS (fun w' hS' => EX.fieldAddr (off := 0) Tryz.underlying27 rfl rfl ti9 rfl rfl) ?_
        refine GW.val 6 rfl (by kernel_rfl) (by kernel_rfl) (by kernel_rfl) rfl rfl hS (fun w' hS' => EX.load Tryz.underlying9 rfl rfl (hS'.2.cell_of rfl)) ?_
        refine GW.val 8 rfl (by kernel_rfl) (by kernel_rfl) (by kernel_rfl) rfl rfl hS (fun w' hS' => EX.fieldAddr (off := 1) Tryz.underlying27 rfl rfl ti3 rfl rfl) ?_
        refine GW.val 9 rfl (by kernel_rfl) (by kernel_rfl) (by kernel_rfl) rfl rfl hS (fun w' hS' => EX.load Tryz.underlying3 rfl rfl (hS'.2.cell_of rfl)) ?_
        refine GW.val 10 rfl (by kernel_rfl) (by kernel_rfl) (by kernel_rfl) rfl rfl hS (fun w' hS' => by first | exact EX.convN (m := 18446744073709551615) Tryz.underlying3 Tryz.underlying82 rfl rfl (by omega) | exact EX.convW (m := 18446744073709551616) Tryz.underlying3 Tryz.underlying82 rfl rfl (by decide) | exact EX.convZ Tryz.underlying3 Tryz.underlying82 rfl) ?_
        refine GW.val 13 rfl (by kernel_rfl) (by kernel_rfl) (by kernel_rfl) rfl rfl hS (fun w' hS' => EX.fieldAddr (off := 2) Tryz.underlying27 rfl rfl ti3 rfl rfl) ?_
        refine GW.val 14 rfl (by kernel_rfl) (by kernel_rfl) (by kernel_rfl) rfl rfl hS (fun w' hS' => EX.load Tryz.underlying3 rfl rfl (hS'.2.cell_of rfl)) ?_
        refine GW.val 15 rfl (by kernel_rfl) (by kernel_rfl) (by kernel_rfl) rfl rfl hS (fun w' hS' => by first | exact EX.convN (m := 18446744073709551615) Tryz.underlying3 Tryz.underlying82 rfl rfl (by omega) | exact EX.convW (m := 18446744073709551616) Tryz.underlying3 Tryz.underlying82 rfl rfl (by decide) | exact EX.convZ Tryz.underlying3 Tryz.underlying82 rfl) ?_
        refine GW.val 18 rfl (by kernel_rfl) (by kernel_rfl) (by kernel_rfl) rfl rfl hS (fun w' hS' => EX.fieldAddr (off := 3) Tryz.underlying27 rfl rfl ti3 rfl rfl) ?_
        refine GW.val 19 rfl (by kernel_rfl) (by kernel_rfl) (by kernel_rfl) rfl rfl hS (fun w' hS' => EX.load Tryz.underlying3 rfl rfl (hS'.2.cell_of rfl)) ?_
        refine GW.val 20 rfl (by kernel_rfl) (by kernel_rfl) (by kernel_rfl) rfl rfl hS (fun w' hS' => by first | exact EX.convN (m := 18446744073709551615) Tryz.underlying3 Tryz.underlying82 rfl rfl (by omega) | exact EX.convW (m := 18446744073709551616) Tryz.underlying3 Tryz.underlying82 rfl rfl (by decide) | exact EX.convZ Tryz.underlying3 Tryz.underlying82 rfl) ?_
        refine GW.val 23 rfl (by kernel_rfl) (by kernel_rfl) (by kernel_rfl) rfl rfl hS (fun w' hS' => EX.fieldAddr (off := 4) Tryz.underlying27 rfl rfl ti25 rfl rfl) ?_
        refine GW.val 24 rfl (by kernel_rfl) (by kernel_rfl) (by kernel_rfl) rfl rfl hS (fun w' hS' => EX.load Tryz.underlying25 rfl rfl (hS'.2.cell_of rfl)) ?_
        refine GW.val 25 rfl (by kernel_rfl) (by kernel_rfl) (by kernel_rfl) rfl rfl hS (fun w' hS' => by first | exact EX.convN (m := 18446744073709551615) Tryz.underlying25 Tryz.underlying82 rfl rfl (by omega) | exact EX.convW (m := 18446744073709551616) Tryz.underlying25 Tryz.underlying82 rfl rfl (by decide) | exact EX.convZ Tryz.underlying25 Tryz.underlying82 rfl) ?_
        refine GW.call 4 rfl (by kernel_rfl) rfl rfl rfl (number_r m.path.length 1 (by omega) (by decide) w2.drew) ?_
        rintro _ w4 ⟨rfl, hx4⟩
        refine ⟨⟨hS.1.trans hx4, hS.2.ext hx4⟩, fun hS => ?_⟩
        refine GW.val 7 rfl (by kernel_rfl) (by kernel_rfl) (by kernel_rfl) rfl rfl hS (fun w' hS' => EX.addS rfl rfl (by first | omega | (simp only [List.length_append, List.length_cons, List.length_nil, List.length_take, List.length_drop, List.length_replicate]; omega))) ?_
        refine GW.call 11 rfl (by kernel_rfl) rfl rfl rfl (number_r st 2 (by omega) (by decide) w4) ?_
        rintro _ w11 ⟨rfl, hx11⟩
        refine ⟨⟨hS.1.trans hx11, hS.2.ext hx11⟩, fun hS => ?_⟩
        refine GW.val 12 rfl (by kernel_rfl) (by kernel_rfl) (by kernel_rfl) rfl rfl hS (fun w' hS' => EX.addS rfl rfl (by first | omega | (simp only [List.length_append, List.length_cons, List.length_nil, List.length_take, List.length_drop, List.length_replicate]; omega))) ?_
        refine GW.call 16 rfl (by kernel_rfl) rfl rfl rfl (number_r se 2 (by omega) (by decide) w11) ?_
        rintro _ w16 ⟨rfl, hx16⟩
        refine ⟨⟨hS.1.trans hx16, hS.2.ext hx16⟩, fun hS => ?_⟩
        refine GW.val 17 rfl (by kernel_rfl) (by kernel_rfl) (by kernel_rfl) rfl rfl hS (fun w' hS' => EX.addS rfl rfl (by first | omega | (simp only [List.length_append, List.length_cons, List.length_nil, List.length_take, List.length_drop, List.length_replicate]; omega))) ?_
        refine GW.call 21 rfl (by kernel_rfl) rfl rfl rfl (number_r sz 2 (by omega) (by decide) w16) ?_
        rintro _ w21 ⟨rfl, hx21⟩
        refine ⟨⟨hS.1.trans hx21, hS.2.ext hx21⟩, fun hS => ?_⟩
        refine GW.val 22 rfl (by kernel_rfl) (by kernel_rfl) (by kernel_rfl) rfl rfl hS (fun w' hS' => EX.addS rfl rfl (by first | omega | (simp only [List.length_append, List.length_cons, List.length_nil, List.length_take, List.length_drop, List.length_replicate]; omega))) ?_
        refine GW.call 26 rfl (by kernel_rfl) rfl rfl rfl (number_r m.sum 4 (by omega) (by decide) w21) ?_
        rintro _ w26 ⟨rfl, hx26⟩
        refine ⟨⟨hS.1.trans hx26, hS.2.ext hx26⟩, fun hS => ?_⟩
        refine GW.val 27 rfl (by kernel_rfl) (by kernel_rfl) (by kernel_rfl) rfl rfl hS (fun w' hS' => EX.addS rfl rfl (by first | omega | (simp only [List.length_append, List.length_cons, List.length_nil, List.length_take, List.length_drop, List.length_replicate]; omega))) ?_
        refine GW.val 28 rfl (by kernel_rfl) (by kernel_rfl) (by kernel_rfl) rfl rfl hS (fun w' hS' => EX.assign rfl) ?_
        refine GW.val 29 rfl (by kernel_rfl) (by kernel_rfl) (by kernel_rfl) rfl rfl hS (fun w' hS' => EX.assign rfl) ?_
        refine GW.done (by kernel_rfl) ?_
        refine KW.meet1 w26 ⟨rfl, rfl, trivial⟩ rfl ?_
        exact hS.1
      · rintro wr xr
        refine KW.ret (ret2 rfl rfl rfl ?_)
        exact ⟨rfl, xr⟩
  · rw [checkM_none h, memberM_none h]
    refine KW.condD rfl (fun c1 => ?_) (fun c1 => ?_)
    · refine KW.seq (KW.region ?_)
      refine OW.val rfl rfl (EX.move rfl) ?_
      refine OW.val rfl rfl (EX.assign rfl) ?_
      refine OW.val rfl rfl (EX.assign rfl) ?_
      refine OW.nil ?_
      refine KW.ret (ret2 rfl rfl rfl ?_)
      exact ⟨rfl, x2⟩
    · omega
end Go.Proofs.YtlpnoogcdnfllaaGreatDoor
namespace Go.Proofs.YtlpnoogcdnfllaaGreatDoor
open Go.RowKit Rec
def first (s : List UInt8) : Nat := (s.getD 0 0).toNat
def memAt (s : List UInt8) : M :=
  ⟨(s.drop 1).take (first s), nb ((s.drop (1 + first s)).take 2), nb ((s.drop (3 + first s)).take 2), nb ((s.drop (5 + first s)).take 2), nb ((s.drop (7 + first s)).take 4)⟩
def memL : Nat → List UInt8 → List M → List M × Nat
  | 0, _, out => (out, 0)
  | f + 1, s, out => if s = [] then (out, 0) else if s.length < first s + 11 then ([], 200) else if mayM (memAt s) then memL f (s.drop (11 + first s)) (out ++ [memAt s]) else ([], 200)
def memsV (l : List M) : List Value := l.flatMap M.cells
theorem memsV_snoc (l : List M) (m : M) : memsV (l ++ [m]) = memsV l ++ m.cells := by simp [memsV]
theorem memsV_length (l : List M) : (memsV l).length = l.length * 5 := by
  induction l with
  | nil => rfl
  | cons m l ih => simp only [memsV, List.flatMap_cons, List.length_append] at ih ⊢; rw [ih]; simp [M.cells]; omega
theorem nb_le (s : List UInt8) (k : Nat) (h : k ≤ 4) : nb (s.take k) ≤ 4294967295 := by
  have h1 : nb (s.take k) < 256 ^ 4 := Nat.lt_of_lt_of_le (nb_lt _ _ rfl) (Nat.pow_le_pow_right (by decide) (by rw [List.length_take]; omega))
  have : (256 : Nat) ^ 4 = 4294967296 := rfl
  omega
theorem memAt_ok (s : List UInt8) (h : s.length ≤ 1000000000) : (memAt s).Ok := ⟨by show ((s.drop 1).take (first s)).length ≤ _; rw [List.length_take, List.length_drop]; omega, nb_le _ 4 (by omega)⟩
theorem first_nb {s : List UInt8} (h : s ≠ []) : numI (s.take 1) = ((first s : Nat) : Int) := by
  rw [numI_small _ (by rw [List.length_take]; omega)]
  match s, h with
  | c :: s, _ => simp [nb, first]
theorem first_lt (s : List UInt8) : first s < 256 := (s.getD 0 0).toNat_lt
set_option maxRecDepth 20000 in
theorem members_s (s : List UInt8) (hs : s.length ≤ 1000000000) (w : World) :
    Ret Tryz.prog 46 [str s] w fun v w' => ∃ vs, v = .tuple #[vs, .int .i64 (((memL (s.length + 1) s []).2 : Nat) : Int)] ∧ Own w' w.heap.size 27 5 vs (memL (s.length + 1) s []).1.length (memsV (memL (s.length + 1) s []).1) ∧ Ext w w' := by
  generalize hres : memL (s.length + 1) s [] = res
  refine Ret.enter Tryz.func46 rfl Tryz.ntmps46 (by kernel_rfl) rfl ?_
  refine KW.seq (KW.region ?_)
  refine OW.val rfl rfl (EX.assign rfl) ?_
  refine OW.val rfl rfl (EX.assign rfl) ?_
  refine OW.nil ?_
  refine KW.seq (KW.region ?_)
  refine OW.val rfl rfl (EX.assign rfl) ?_
  refine OW.nil ?_
  refine KW.seq (KW.region ?_)
  refine OW.val rfl rfl (EX.move rfl) ?_
  refine OW.val rfl rfl (EX.buildS (pl := [(0, 1)]) (ks := [0]) (is := [0]) (zs := [str []]) Tryz.underlying89 ti89 (by kernel_rfl) rfl rfl rfl (by first | rfl | (simp only [List.all_cons, List.all_nil, Bool.and_true, Bool.true_and, Bool.and_eq_true, Value.oneCell']; repeat (first | assumption | exact Own.one (by assumption) | constructor))) (by simp only [setAll, List.set_cons_zero, List.set_cons_succ]; rfl)) ?_
  refine OW.val rfl rfl (EX.buildG (pl := [(0, 1)]) (ks := [0]) (zs := [str []]) Tryz.underlying91 ti91 (by kernel_rfl) rfl rfl rfl) ?_
  refine OW.boxS rfl rfl rfl ?_
  rintro rb w1 hge1 hr1 hx1
  refine OW.val rfl rfl (EX.assign rfl) ?_
  refine OW.nil ?_
  refine KW.seq (KW.block ?_)
  have hrw : w.heap.size ≤ rb := hge1
  refine KW.loop5 (fun (f : Nat) (q : (List UInt8)) (out : (List M)) (v : Value) (wr : World) => q.length < f ∧ q.length ≤ 1000000000 ∧ out.length + f ≤ s.length + 1 ∧ memL f q out = res ∧ Bk wr rb 91 [str q] ∧ Own wr w.heap.size 27 5 v out.length (memsV out) ∧ Ext w wr) (fun (f : Nat) (q : (List UInt8)) (out : (List M)) (v : Value) (wr : World) => [(4, v), (5, .pointer (some ⟨rb, 0, none⟩))]) (fun (f : Nat) (q : (List UInt8)) (out : (List M)) (v : Value) (wr : World) => wr) (fun (f : Nat) (q : (List UInt8)) (out : (List M)) (v : Value) (wr : World) => q.length) (s.length + 1) (s) ([]) (.slice none 0 0) (w1) ⟨rfl, rfl, trivial⟩ rfl ?_ ?_
  · exact ⟨by omega, hs, by simp, hres, hr1, Own.nil _ _ _ _, hx1⟩
  · rintro f q out v wr ⟨hqf, hql, hof, hm, hr, hown, hx⟩
    refine KW.seq (KW.seq (KW.region ?_))
    refine OW.val rfl rfl (EX.move rfl) ?_
    refine OW.val rfl rfl (EX.nilCheck rfl) ?_
    refine OW.val rfl rfl (EX.fieldAddr (off := 0) Tryz.underlying91 rfl rfl ti89 rfl rfl) ?_
    refine OW.val rfl rfl (EX.fieldAddr (off := 0) Tryz.underlying89 rfl rfl ti9 rfl rfl) ?_
    refine OW.val rfl rfl (EX.load Tryz.underlying9 rfl rfl (hr.cell_of rfl)) ?_
    refine OW.val rfl rfl (EX.neqS (r := []) rfl rfl) ?_
    refine OW.nil ?_
    refine KW.condD rfl (fun hne => ?_) (fun hne => ?_)
    · obtain ⟨f, rfl⟩ : ∃ g, f = g + 1 := ⟨f - 1, by omega⟩
      have hne' : q ≠ [] := by simpa using hne
      have hql0 : 0 < q.length := List.length_pos_iff.2 hne'
      have hfl := first_lt q
      rw [memL, if_neg hne'] at hm
      generalize hn : first q = n at hm hfl
      have d1 : (q.drop 1).drop n = q.drop (1 + n) := List.drop_drop ..
      have d3 : (q.drop (1 + n)).drop 2 = q.drop (3 + n) := by rw [List.drop_drop]; congr 1; omega
      have d5 : (q.drop (3 + n)).drop 2 = q.drop (5 + n) := by rw [List.drop_drop]; congr 1; omega
      have d7 : (q.drop (5 + n)).drop 2 = q.drop (7 + n) := by rw [List.drop_drop]; congr 1; omega
      have d11 : (q.drop (7 + n)).drop 4 = q.drop (11 + n) := by rw [List.drop_drop]; congr 1; omega
      have ld : ∀ j, (q.drop j).length ≤ 1000000000000 := fun j => by rw [List.length_drop]; omega
      have hd1 : (q.drop 1).length = q.length - 1 := List.length_drop
      have b2 := fun t : List UInt8 => nb_le t 2 (by omega)
      have b4 := fun t : List UInt8 => nb_le t 4 (by omega)
      have i2 := fun t : List UInt8 => numI_small (t.take 2) (by rw [List.length_take]; omega)
      have i4 := fun t : List UInt8 => numI_small (t.take 4) (by rw [List.length_take]; omega)
      refine KW.skip (KW.block (KW.seq (KW.region ?_)))
      refine OW.val rfl rfl (EX.move rfl) ?_
      refine OW.call rfl rfl rfl (num_s rb 1 q _ wr hr (by omega) (by omega)) ?_
      rintro _ w2 ⟨rfl, hr2, hm2⟩
      refine OW.val rfl rfl (EX.assign rfl) ?_
      refine OW.nil ?_
      refine KW.seq (KW.seq (KW.region ?_))
      refine OW.val rfl rfl (EX.move rfl) ?_
      refine OW.val rfl rfl (EX.nilCheck rfl) ?_
      refine OW.val rfl rfl (EX.fieldAddr (off := 0) Tryz.underlying91 rfl rfl ti89 rfl rfl) ?_
      refine OW.val rfl rfl (EX.fieldAddr (off := 0) Tryz.underlying89 rfl rfl ti9 rfl rfl) ?_
      rw [first_nb hne', hn]
      have x2 : Ext w w2 := below_mo hx hm2 hx.size (fun k hk => by simp at hk; omega)
      have hown2 := hown.mo hm2 (fun k hk => by simp; exact fun z => hown.ne hr (by decide) k hk z.symm)
      refine OW.val rfl rfl (EX.load Tryz.underlying9 rfl rfl (hr2.cell_of rfl)) ?_
      refine OW.val rfl rfl (EX.lenS Tryz.underlying9 rfl) ?_
      refine OW.val rfl rfl (EX.move rfl) ?_
      refine OW.val rfl rfl (by first | exact EX.addN (b := 10) (m := 9223372036854775807) rfl rfl rfl (by omega) | exact EX.addZ (m := 9223372036854775807) rfl rfl rfl rfl (by omega)) ?_
      refine OW.val rfl rfl (by first | exact EX.lssN rfl rfl | exact EX.lssZ rfl rfl) ?_
      refine OW.nil ?_
      refine KW.condD rfl (fun hshort => ?_) (fun hshort => ?_)
      · rw [if_pos (by omega)] at hm
        subst hm
        refine KW.seq (KW.region ?_)
        refine OW.val rfl rfl (EX.assign rfl) ?_
        refine OW.val rfl rfl (EX.assign rfl) ?_
        refine OW.nil ?_
        refine KW.ret (ret2 rfl rfl rfl ?_)
        exact ⟨_, rfl, Own.nil _ _ _ _, x2⟩
      · rw [if_neg (by omega)] at hm
        refine KW.skip (KW.seq (KW.region ?_))
        refine OW.val rfl rfl (EX.move rfl) ?_
        refine OW.val rfl rfl (EX.nilCheck rfl) ?_
        refine OW.val rfl rfl (EX.fieldAddr (off := 0) Tryz.underlying91 rfl rfl ti89 rfl rfl) ?_
        refine OW.val rfl rfl (EX.move rfl) ?_
        refine OW.call rfl rfl rfl (take_s rb n (q.drop 1) _ w2 hr2 (by omega) (ld 1)) ?_
        rintro _ w3 ⟨rfl, hr3, hm3⟩
        refine OW.val rfl rfl (EX.buildS (pl := [(0, 1), (1, 1), (2, 1), (3, 1), (4, 1)]) (ks := [0]) (is := [0]) (zs := [str [], .int .i64 0, .int .i64 0, .int .i64 0, .int .u32 0]) Tryz.underlying27 ti27 (by kernel_rfl) rfl rfl rfl (by first | rfl | (simp only [List.all_cons, List.all_nil, Bool.and_true, Bool.true_and, Bool.and_eq_true, Value.oneCell']; repeat (first | assumption | exact Own.one (by assumption) | constructor))) (by simp only [setAll, List.set_cons_zero, List.set_cons_succ]; rfl)) ?_
        rw [d1] at hr3
        have x3 : Ext w w3 := below_mo x2 hm3 x2.size (fun k hk => by simp at hk; omega)
        have hown3 := hown2.mo hm3 (fun k hk => by simp; exact fun z => hown2.ne hr2 (by decide) k hk z.symm)
        refine OW.allocB (l := [str [], .int .i64 0, .int .i64 0, .int .i64 0, .int .u32 0]) rfl rfl ti27 rfl ?_
        rintro mb w4 hge4 hmb4 hx4
        refine OW.storeS rfl ti27 rfl rfl rfl (by first | rfl | (simp only [List.all_cons, List.all_nil, Bool.and_true, Bool.true_and, Bool.and_eq_true, Value.oneCell']; repeat (first | assumption | exact Own.one (by assumption) | constructor))) (hmb4) (Nat.le_refl _) ?_
        rintro w5 hmb5 hm5
        refine OW.nil ?_
        refine KW.seq (KW.region ?_)
        refine OW.val rfl rfl (EX.move rfl) ?_
        have x4 := x3.trans hx4
        have x5 : Ext w w5 := below_mo x4 hm5 x4.size (fun k hk => by simp at hk; have := x3.size; omega)
        have hmbw : w.heap.size ≤ mb := by have := x3.size; omega
        have hr5 := (hr3.ext hx4).mo hm5 (by simp; exact (hr3.ext hx4).ne hmb4 (by decide))
        have hown5 := (hown3.ext hx4).mo hm5 (fun k hk => by
          have hlt := (hown3.lt k hk).2
          simp
          omega)
        have hnm : ∀ k, v.ownBlock = some k → k ≠ mb := fun k hk => by have hlt := (hown3.lt k hk).2; omega
        have hrm : mb ≠ rb := fun z => (hr5.ne hmb5 (by decide)) z.symm
        refine OW.call rfl rfl rfl (num_s rb 2 (q.drop (1 + n)) _ w5 hr5 (by omega) (ld _)) ?_
        rintro _ w6 ⟨rfl, hr6, hm6⟩
        refine OW.val rfl rfl (EX.move rfl) ?_
        rw [d3] at hr6
        refine OW.call rfl rfl rfl (num_s rb 2 (q.drop (3 + n)) _ w6 hr6 (by omega) (ld _)) ?_
        rintro _ w7 ⟨rfl, hr7, hm7⟩
        refine OW.val rfl rfl (EX.move rfl) ?_
        rw [d5] at hr7
        refine OW.call rfl rfl rfl (num_s rb 2 (q.drop (5 + n)) _ w7 hr7 (by omega) (ld _)) ?_
        rintro _ w8 ⟨rfl, hr8, hm8⟩
        refine OW.val rfl rfl (EX.move rfl) ?_
        rw [d7] at hr8
        have b47 := b4 (q.drop (7 + n))
        have c9 := num_s rb 4 (q.drop (7 + n)) _ w8 hr8 (by omega) (ld _)
        rw [i4] at c9
        refine OW.call rfl rfl rfl (c9) ?_
        rintro _ w9 ⟨rfl, hr9, hm9⟩
        refine OW.val rfl rfl (by first | exact EX.convN (m := 4294967295) Tryz.underlying3 Tryz.underlying25 rfl rfl (by omega) | exact EX.convW (m := 4294967296) Tryz.underlying3 Tryz.underlying25 rfl rfl (by decide) | exact EX.convZ Tryz.underlying3 Tryz.underlying25 rfl) ?_
        refine OW.val rfl rfl (EX.fieldAddr (off := 1) Tryz.underlying27 rfl rfl ti3 rfl rfl) ?_
        rw [d11] at hr9
        rw [i2, i2, i2]
        have hm59 : Mo w5 w9 [rb] := ((hm6.trans hm7).trans hm8).trans hm9
        have hmb9 := hmb5.mo hm59 (by simpa using hrm)
        have hown9 := hown5.mo hm59 (fun k hk => by simp; exact fun z => hown5.ne hr5 (by decide) k hk z.symm)
        have x9 : Ext w w9 := below_mo x5 hm59 x5.size (fun k hk => by simp at hk; omega)
        have hM : memAt q = ⟨(q.drop 1).take n, nb ((q.drop (1 + n)).take 2), nb ((q.drop (3 + n)).take 2), nb ((q.drop (5 + n)).take 2), nb ((q.drop (7 + n)).take 4)⟩ := by unfold memAt; rw [hn]
        refine OW.storeB rfl ti3 rfl rfl (by first | rfl | assumption | exact Own.one (by assumption)) (hmb9) (by simp) ?_
        rintro wa hba hma
        refine OW.val rfl rfl (EX.fieldAddr (off := 2) Tryz.underlying27 rfl rfl ti3 rfl rfl) ?_
        refine OW.storeB rfl ti3 rfl rfl (by first | rfl | assumption | exact Own.one (by assumption)) (hba) (by simp) ?_
        rintro wb hbb hmb'
        refine OW.val rfl rfl (EX.fieldAddr (off := 3) Tryz.underlying27 rfl rfl ti3 rfl rfl) ?_
        refine OW.storeB rfl ti3 rfl rfl (by first | rfl | assumption | exact Own.one (by assumption)) (hbb) (by simp) ?_
        rintro wc hbc hmc
        refine OW.val rfl rfl (EX.fieldAddr (off := 4) Tryz.underlying27 rfl rfl ti25 rfl rfl) ?_
        refine OW.storeB rfl ti25 rfl rfl (by first | rfl | assumption | exact Own.one (by assumption)) (hbc) (by simp) ?_
        rintro wd hbd hmd
        refine OW.nil ?_
        refine KW.seq (KW.seq (KW.region ?_))
        have hmad : Mo w9 wd [mb] := ((hma.trans hmb').trans hmc).trans hmd
        replace hbd : Bk wd mb 27 (memAt q).cells := by rw [hM]; exact hbd
        have xd : Ext w wd := below_mo x9 hmad x9.size (fun k hk => by simp at hk; omega)
        have hrd := hr9.mo hmad (by simpa using Ne.symm hrm)
        have hownd := hown9.mo hmad (fun k hk => by simpa using hnm k hk)
        refine OW.val rfl rfl (EX.loadBk Tryz.underlying27 rfl ti27 rfl (hbd) (rfl)) ?_
        refine OW.call rfl rfl rfl (checkM_s (memAt q) (memAt_ok q hql) wd) ?_
        rintro _ we ⟨rfl, hxe⟩
        refine OW.val rfl rfl (EX.assign rfl) ?_
        refine OW.nil ?_
        refine KW.seq (KW.region ?_)
        refine OW.val rfl rfl (EX.move rfl) ?_
        refine OW.val rfl rfl (by first | exact EX.neqN (b := 0) rfl rfl | exact EX.neqZ rfl rfl) ?_
        refine OW.nil ?_
        have hbe := hbd.ext hxe
        have hre := hrd.ext hxe
        have howne := hownd.ext hxe
        have xe := xd.trans hxe
        by_cases hmay : mayM (memAt q)
        · rw [checkM_some hmay]
          rw [if_pos hmay] at hm
          refine KW.condD rfl (fun hz => ?_) (fun hz => ?_)
          · omega
          · refine KW.skip (KW.region ?_)
            refine OW.val rfl rfl (EX.move rfl) ?_
            refine OW.val rfl rfl (EX.loadBk Tryz.underlying27 rfl ti27 rfl (hbe) (rfl)) ?_
            refine OW.pushS rfl rfl (fun _ => rfl) rfl Tryz.underlying22 ti27 rfl (by decide) (by decide) rfl rfl (fun _ => rfl) (by first | rfl | assumption | (simp only [List.all_cons, List.all_nil, Bool.and_true, Bool.true_and, Bool.and_eq_true, Value.oneCell']; repeat (first | assumption | constructor))) (xe) (howne) (by simp only [maxLen]; omega) (by omega) ?_
            rintro _ v2 wf hownf xf hgf
            refine OW.val rfl rfl (EX.assign rfl) ?_
            refine OW.nil ?_
            refine KW.leave ?_
            have hdl11 : (q.drop (11 + n)).length = q.length - (11 + n) := List.length_drop ..
            refine KW.back5 (f) (q.drop (11 + n)) (out ++ [memAt q]) (v2) (wf) ⟨rfl, rfl, trivial⟩ rfl ?_ (by omega)
            have hgr : Mo we wf v.ownBlock.toList := Mo.grown hgf (fun k e => by rw [e]; simp)
            refine ⟨by rw [List.length_drop]; omega, by rw [List.length_drop]; omega, by rw [List.length_append, List.length_singleton]; omega, hm, hre.mo hgr (fun z => howne.ne hre (by decide) rb (by simpa using z) rfl), ?_, xf⟩
            rw [List.length_append, memsV_snoc]
            exact hownf
        · rw [checkM_none hmay]
          rw [if_neg hmay] at hm
          subst hm
          refine KW.condD rfl (fun hz => ?_) (fun hz => ?_)
          · refine KW.seq (KW.region ?_)
            refine OW.val rfl rfl (EX.move rfl) ?_
            refine OW.val rfl rfl (EX.assign rfl) ?_
            refine OW.val rfl rfl (EX.assign rfl) ?_
            refine OW.nil ?_
            refine KW.ret (ret2 rfl rfl rfl ?_)
            exact ⟨_, rfl, Own.nil _ _ _ _, xe⟩
          · omega
    · have hq0 : q = [] := by simpa using hne
      obtain ⟨f, rfl⟩ : ∃ g, f = g + 1 := ⟨f - 1, by omega⟩
      rw [memL, if_pos hq0] at hm
      subst hm
      refine KW.exit rfl (KW.seq (KW.region ?_))
      refine OW.val rfl rfl (EX.move rfl) ?_
      refine OW.val rfl rfl (EX.assign rfl) ?_
      refine OW.val rfl rfl (EX.assign rfl) ?_
      refine OW.nil ?_
      refine KW.ret (ret2 rfl rfl rfl ?_)
      exact ⟨_, rfl, hown, hx⟩
end Go.Proofs.YtlpnoogcdnfllaaGreatDoor
namespace Go.Proofs.YtlpnoogcdnfllaaGreatDoor
open Go.RowKit Rec
def allT (l : List M) : List UInt8 := l.flatMap memberT
theorem memberT_length (m : M) : (memberT m).length = m.path.length + 11 := by
  unfold memberT
  simp only [List.length_append, be_length]
  omega
theorem memberT_read {m : M} (h : mayM m) (hs : m.sum ≤ 4294967295) (r : List UInt8) : memAt (memberT m ++ r) = m ∧ first (memberT m ++ r) = m.path.length ∧ (memberT m ++ r).drop (11 + m.path.length) = r := by
  obtain ⟨hp, _⟩ := may_path h
  obtain ⟨_, h1, h2, h3, h4, h5, h6⟩ := h
  have e : memberT m ++ r = [UInt8.ofNat m.path.length] ++ (m.path ++ (be 2 m.start.toNat ++ (be 2 m.sectors.toNat ++ (be 2 m.size.toNat ++ (be 4 m.sum ++ r))))) := by
    unfold memberT
    rw [be_one _ (by omega)]
    simp only [List.append_assoc]
  have hf : first (memberT m ++ r) = m.path.length := by
    rw [e]
    show (UInt8.ofNat m.path.length).toNat = _
    simp
    omega
  have d1 : (memberT m ++ r).drop 1 = m.path ++ (be 2 m.start.toNat ++ (be 2 m.sectors.toNat ++ (be 2 m.size.toNat ++ (be 4 m.sum ++ r)))) := by rw [e]; rfl
  have d2 := drop_more d1 rfl (j := 1 + m.path.length) rfl
  have d3 := drop_more d2 (be_length 2 _) (j := 3 + m.path.length) (by omega)
  have d4 := drop_more d3 (be_length 2 _) (j := 5 + m.path.length) (by omega)
  have d5 := drop_more d4 (be_length 2 _) (j := 7 + m.path.length) (by omega)
  have d6 := drop_more d5 (be_length 4 _) (j := 11 + m.path.length) (by omega)
  refine ⟨?_, hf, d6⟩
  obtain ⟨mp, ms, mse, msz, msu⟩ := m
  simp only at h1 h2 h3 h4 h5 h6 hs d1 d2 d3 d4 d5 hf
  unfold memAt
  rw [hf, d1, d2, d3, d4, d5, List.take_left' rfl, List.take_left' (be_length _ _), List.take_left' (be_length _ _), List.take_left' (be_length _ _), List.take_left' (be_length _ _),
    nb_be 2 _ (by simp only [Nat.reducePow]; omega), nb_be 2 _ (by simp only [Nat.reducePow]; omega), nb_be 2 _ (by simp only [Nat.reducePow]; omega), nb_be 4 _ (by simp only [Nat.reducePow]; omega)]
  simp only [M.mk.injEq, true_and, and_true]
  omega
theorem memL_back : ∀ (l : List M) (f : Nat) (out : List M), (∀ m ∈ l, mayM m ∧ m.sum ≤ 4294967295) → (allT l).length < f → memL f (allT l) out = (out ++ l, 0)
  | [], f, out, _, hf => by
    obtain ⟨g, rfl⟩ : ∃ g, f = g + 1 := ⟨f - 1, by omega⟩
    rw [memL, if_pos (show allT [] = [] from rfl), List.append_nil]
  | m :: l, f, out, hl, hf => by
    obtain ⟨g, rfl⟩ : ∃ g, f = g + 1 := ⟨f - 1, by omega⟩
    obtain ⟨h1, h2⟩ := hl m (by simp)
    have e : allT (m :: l) = memberT m ++ allT l := by simp [allT]
    obtain ⟨r1, r2, r3⟩ := memberT_read h1 h2 (allT l)
    rw [e] at hf ⊢
    rw [List.length_append, memberT_length] at hf
    have hlen : (memberT m ++ allT l).length = m.path.length + 11 + (allT l).length := by rw [List.length_append, memberT_length]
    rw [memL, if_neg (fun z => by rw [z] at hlen; simp only [List.length_nil] at hlen; omega), r2, if_neg (by omega), r1, if_pos h1, r3, memL_back l g _ (fun x hx => hl x (by simp [hx])) (by omega)]
    simp
end Go.Proofs.YtlpnoogcdnfllaaGreatDoor
namespace Go.Proofs.YtlpnoogcdnfllaaGreatDoor.Dsk
open Go.Proofs.YtlpnoogcdnfllaaGreatDoor
inductive Ch where
  | write (i : Nat) (s : List UInt8)
  | cut (n : Nat)
def zeros (n : Nat) : List UInt8 := List.replicate n 0
def Ch.ap : Ch → List UInt8 → List UInt8
  | .write i s, all =>
    (all ++ zeros ((i + 1) * 512 - all.length)).take (i * 512) ++ s ++ (all ++ zeros ((i + 1) * 512 - all.length)).drop (i * 512 + s.length)
  | .cut n, all => all.take (min all.length (n * 512))
def Ch.ok (cap : Nat) : Ch → Prop
  | .write i s => i < cap ∧ s.length = 512
  | .cut n => n ≤ cap
theorem zeros_length (n : Nat) : (zeros n).length = n := by simp [zeros]
theorem ap_length {cap : Nat} {c : Ch} (h : c.ok cap) {all : List UInt8} (ha : all.length ≤ 512 * cap) : (c.ap all).length ≤ 512 * cap := by
  cases c with
  | write i s =>
    obtain ⟨h1, h2⟩ := h
    simp only [Ch.ap, List.length_append, List.length_take, List.length_drop, zeros_length]
    omega
  | cut n => simp only [Ch.ap, List.length_take]; omega
theorem ap_mod {cap : Nat} {c : Ch} (h : c.ok cap) {all : List UInt8} (ha : all.length % 512 = 0) : (c.ap all).length % 512 = 0 := by
  cases c with
  | write i s =>
    obtain ⟨h1, h2⟩ := h
    simp only [Ch.ap, List.length_append, List.length_take, List.length_drop, zeros_length]
    omega
  | cut n => simp only [Ch.ap, List.length_take]; omega
structure Dv where
  cap : Nat
  kept : List UInt8
  now : List UInt8
  pend : List Ch
  at_ : Nat
  keep : List Bool
  dead : Bool
  calls : Nat
structure Dv.Ok (D : Dv) : Prop where
  cap : 1 ≤ D.cap ∧ D.cap ≤ 4096
  kept : D.kept.length ≤ 512 * D.cap
  now : D.now.length ≤ 512 * D.cap
  keptM : D.kept.length % 512 = 0
  nowM : D.now.length % 512 = 0
  pend : ∀ c ∈ D.pend, c.ok D.cap
def fallen : List Ch → List Bool → List UInt8 → List UInt8
  | [], _, all => all
  | c :: cs, [], all => all
  | c :: cs, b :: bs, all => fallen cs bs (if b then c.ap all else all)
def Dv.pushed (D : Dv) (c : Option Ch) : Dv := match c with
  | some c => { D with pend := D.pend ++ [c] }
  | none => D
def Dv.done (D : Dv) (c : Option Ch) : Dv := match c with
  | some c => { D with now := c.ap D.now, calls := D.calls + 1 }
  | none => { D with kept := D.now, pend := [], calls := D.calls + 1 }
def Dv.does (D : Dv) (c : Option Ch) : Dv × Nat :=
  let E := D.pushed c
  if E.at_ = 0 then (E.done c, 0)
  else if E.at_ = 1 then ({ E with kept := fallen E.pend E.keep E.kept, now := fallen E.pend E.keep E.kept, pend := [], at_ := 0, keep := [], dead := true }, 190)
  else (Dv.done { E with at_ := E.at_ - 1 } c, 0)
theorem fallen_length {cap : Nat} : ∀ (cs : List Ch) (bs : List Bool) (all : List UInt8), (∀ c ∈ cs, c.ok cap) → all.length ≤ 512 * cap → all.length % 512 = 0 → (fallen cs bs all).length ≤ 512 * cap ∧ (fallen cs bs all).length % 512 = 0
  | [], _, all, _, h1, h2 => ⟨h1, h2⟩
  | c :: cs, [], all, _, h1, h2 => ⟨h1, h2⟩
  | c :: cs, b :: bs, all, h, h1, h2 => by
    simp only [fallen]
    refine fallen_length cs bs _ (fun c' hc => h c' (by simp [hc])) ?_ ?_
    · split
      · exact ap_length (h c (by simp)) h1
      · exact h1
    · split
      · exact ap_mod (h c (by simp)) h2
      · exact h2
theorem fallen_snoc : ∀ (cs : List Ch) (c : Ch) (bs : List Bool) (all : List UInt8), fallen (cs ++ [c]) bs all = if bs.getD cs.length false then c.ap (fallen cs bs all) else fallen cs bs all
  | [], c, [], all => by simp [fallen]
  | [], c, b :: bs, all => by simp [fallen]
  | d :: cs, c, [], all => by simp [fallen]
  | d :: cs, c, b :: bs, all => by
    simp only [List.cons_append, fallen, fallen_snoc cs c bs _, List.length_cons, List.getD_cons_succ]
theorem pushed_ok {D : Dv} (h : D.Ok) {c : Option Ch} (hc : ∀ d, c = some d → d.ok D.cap) : (D.pushed c).Ok := by
  cases c with
  | none => exact h
  | some c =>
    refine ⟨h.cap, h.kept, h.now, h.keptM, h.nowM, fun d hd => ?_⟩
    simp only [Dv.pushed, List.mem_append, List.mem_singleton] at hd
    rcases hd with hd | rfl
    · exact h.pend d hd
    · exact hc _ rfl
theorem done_ok {D : Dv} (h : D.Ok) {c : Option Ch} (hc : ∀ d, c = some d → d.ok D.cap) : (D.done c).Ok := by
  cases c with
  | none => exact ⟨h.cap, h.now, h.now, h.nowM, h.nowM, fun d hd => by simp [Dv.done] at hd⟩
  | some c => exact ⟨h.cap, h.kept, ap_length (hc c rfl) h.now, h.keptM, ap_mod (hc c rfl) h.nowM, h.pend⟩
theorem pushed_cap (D : Dv) (c : Option Ch) : (D.pushed c).cap = D.cap := by cases c <;> rfl
theorem does_ok {D : Dv} (h : D.Ok) {c : Option Ch} (hc : ∀ d, c = some d → d.ok D.cap) : (D.does c).1.Ok := by
  have h1 := pushed_ok h hc
  have hc1 : ∀ d, c = some d → d.ok (D.pushed c).cap := fun d hd => by rw [pushed_cap]; exact hc d hd
  unfold Dv.does
  simp only
  split
  · exact done_ok h1 hc1
  · split
    · obtain ⟨q1, q2⟩ := fallen_length (cap := (D.pushed c).cap) (D.pushed c).pend (D.pushed c).keep (D.pushed c).kept h1.pend h1.kept h1.keptM
      exact ⟨h1.cap, q1, q1, q2, q2, fun d hd => by simp at hd⟩
    · exact done_ok (D := { D.pushed c with at_ := (D.pushed c).at_ - 1 }) ⟨h1.cap, h1.kept, h1.now, h1.keptM, h1.nowM, h1.pend⟩ hc1
def sector (b : Nat) (odd : Bool) : List UInt8 := List.replicate (if odd then 511 else 512) (UInt8.ofNat b)
end Go.Proofs.YtlpnoogcdnfllaaGreatDoor.Dsk
namespace Go.Proofs.YtlpnoogcdnfllaaGreatDoor
open Go.RowKit Dsk
theorem cloneB_c (A : Option Addr) (c : Nat) (xs : List Value) (B : Nat) (w : World) (hs : Sl w B A xs) (hA : A = none → xs = []) (h1 : ∀ u ∈ xs, u.oneCell' = true) (hl : xs.length ≤ 140737488351232) :
    Ret Tryz.prog 70 [.slice A xs.length c] w fun v w' => Own w' w.heap.size 5 1 v xs.length xs ∧ Ext w w' := by
  refine Ret.enter Tryz.func70 rfl Tryz.ntmps70 (by kernel_rfl) rfl ?_
  rcases A with _ | a
  · obtain rfl := hA rfl
    refine KW.seq (KW.region ?_)
    refine OW.val rfl rfl (EX.assign rfl) ?_
    refine OW.nil ?_
    refine KW.seq (KW.seq (KW.region ?_))
    refine OW.val rfl rfl (EX.move rfl) ?_
    refine OW.val rfl rfl (by first | exact EX.eqlA1 Tryz.underlying59 rfl rfl | exact EX.eqlA0 Tryz.underlying59 rfl rfl) ?_
    refine OW.nil ?_
    refine KW.condT rfl (KW.seq (KW.region ?_))
    refine OW.val rfl rfl (EX.assign rfl) ?_
    refine OW.nil ?_
    refine KW.ret (ret1 rfl rfl ?_)
    exact ⟨Own.nil _ _ _ _, Ext.refl _⟩
  · refine KW.seq (KW.region ?_)
    refine OW.val rfl rfl (EX.assign rfl) ?_
    refine OW.nil ?_
    refine KW.seq (KW.seq (KW.region ?_))
    refine OW.val rfl rfl (EX.move rfl) ?_
    refine OW.val rfl rfl (by first | exact EX.eqlA1 Tryz.underlying59 rfl rfl | exact EX.eqlA0 Tryz.underlying59 rfl rfl) ?_
    refine OW.nil ?_
    refine KW.condF rfl (KW.skip (KW.seq (KW.region ?_)))
    refine OW.buildB 0 rfl rfl Tryz.underlying59 ti5 rfl rfl rfl rfl (by first | rfl | (simp only [List.all_cons, List.all_nil, Bool.and_true, Bool.and_eq_true]; assumption)) (by decide) ?_
    rintro b w1 hge hb hx
    refine OW.val rfl rfl (EX.move rfl) ?_
    refine OW.appendX rfl rfl Tryz.underlying59 ti5 rfl (by decide) rfl rfl (hx) (Own.of_bk (l := []) hb hge rfl (by decide)) (Src.of_sl Tryz.underlying59 (hs.ext hx) (by simp) h1 (by decide)) (by simp only [maxLen]; omega) (by omega) ?_
    rintro v' w' hown hx' _ _
    refine OW.val rfl rfl (EX.assign rfl) ?_
    refine OW.nil ?_
    refine KW.ret (ret1 rfl rfl ?_)
    rw [Nat.zero_add] at hown
    exact ⟨hown, hx'⟩
def Chd (w w' : World) (v v' : Value) (all : List UInt8) : Prop :=
  Own w' 0 5 1 v' all.length (bytesV all) ∧ Mo w w' v.ownBlock.toList ∧ (v'.ownBlock = v.ownBlock ∨ ∃ g, v'.ownBlock = some g ∧ w.heap.size ≤ g)
theorem bytesV_zeros (n : Nat) : bytesV (zeros n) = List.replicate n (.int .u8 0) := by simp [bytesV, zeros]
set_option maxRecDepth 20000 in
theorem write1_c (bi bs i : Nat) (s : List UInt8) (v : Value) (all : List UInt8) (w : World) (hbi : Bk w bi 3 [.int .i64 (i : Int)]) (hbs : Bk w bs 9 [str s]) (hown : Own w 0 5 1 v all.length (bytesV all)) (hi : i ≤ 1000000) (hs : s.length = 512) (hl : all.length ≤ 1000000000) :
    Ret Tryz.prog 43 [v, .pointer (some ⟨bi, 0, none⟩), .pointer (some ⟨bs, 0, none⟩)] w fun v' w' => Chd w w' v v' ((Ch.write i s).ap all) := by
  obtain ⟨A, c, rfl, hlc, hsl⟩ := hown.slice
  refine Ret.enter Tryz.func43 rfl Tryz.ntmps43 (by kernel_rfl) rfl ?_
  refine KW.seq (KW.region ?_)
  refine OW.val rfl rfl (EX.assign rfl) ?_
  refine OW.nil ?_
  refine KW.seq (KW.seq (KW.region ?_))
  refine OW.val rfl rfl (EX.load Tryz.underlying3 rfl rfl (hbi.cell_of rfl)) ?_
  refine OW.val rfl rfl (by first | exact EX.addN (b := 1) (m := 9223372036854775807) rfl rfl rfl (by omega) | exact EX.addZ (m := 9223372036854775807) rfl rfl rfl rfl (by omega)) ?_
  refine OW.val rfl rfl (by first | exact EX.mulN (b := 512) (m := 9223372036854775807) rfl rfl rfl (by omega) | exact EX.mulZ (m := 9223372036854775807) rfl rfl rfl rfl (by omega)) ?_
  refine OW.val rfl rfl (EX.assign rfl) ?_
  refine OW.nil ?_
  refine KW.seq (KW.region ?_)
  refine OW.val rfl rfl (EX.move rfl) ?_
  refine OW.val rfl rfl (EX.lenA Tryz.underlying59 rfl) ?_
  refine OW.val rfl rfl (EX.move rfl) ?_
  refine OW.val rfl rfl (by first | exact EX.lssN rfl rfl | exact EX.lssZ rfl rfl) ?_
  refine OW.nil ?_
  refine KW.cut2 (fun (v1 : Value) (w1 : World) => Own w1 0 5 1 v1 (all ++ zeros ((i + 1) * 512 - all.length)).length (bytesV (all ++ zeros ((i + 1) * 512 - all.length))) ∧ Mo w w1 (Value.slice A all.length c).ownBlock.toList ∧ (v1.ownBlock = (Value.slice A all.length c).ownBlock ∨ ∃ g, v1.ownBlock = some g ∧ w.heap.size ≤ g)) (fun (v1 : Value) (w1 : World) => [(0, v1), (1, .pointer (some ⟨bi, 0, none⟩)), (2, .pointer (some ⟨bs, 0, none⟩))]) (fun (v1 : Value) (w1 : World) => w1) ?_ ?_
  · skip
    refine KW.condD rfl (fun h => ?_) (fun h => ?_)
    · refine KW.region ?_
      refine OW.val rfl rfl (EX.move rfl) ?_
      refine OW.val rfl rfl (EX.move rfl) ?_
      refine OW.val rfl rfl (EX.move rfl) ?_
      refine OW.val rfl rfl (EX.lenA Tryz.underlying59 rfl) ?_
      refine OW.val rfl rfl (by first | exact EX.subN (m := 9223372036854775807) rfl rfl rfl (by omega) | exact EX.subZ (m := 9223372036854775807) rfl rfl rfl rfl (by omega)) ?_
      refine OW.appendZB rfl rfl Tryz.underlying59 Tryz.underlying3 ti5 rfl rfl rfl (hown) (by omega) (by simp only [maxLen]; omega) (by omega) ?_
      rintro v1 w1 hown1 hg1 hb1
      refine OW.val rfl rfl (EX.assign rfl) ?_
      refine OW.nil ?_
      refine KW.meet2 (v1) (w1) ⟨rfl, rfl, rfl, trivial⟩ rfl ?_
      refine ⟨?_, Mo.grown hg1 (fun k e => by rw [e]; simp), ?_⟩
      · rw [List.length_append, zeros_length, bytesV_append, bytesV_zeros]
        exact hown1
      · rcases hb1 with e | e
        · exact .inl e
        · exact .inr ⟨_, e, Nat.le_refl _⟩
    · refine KW.skip ?_
      refine KW.meet2 (_) (w) ⟨rfl, rfl, rfl, trivial⟩ rfl ?_
      have e0 : all ++ zeros ((i + 1) * 512 - all.length) = all := by rw [show (i + 1) * 512 - all.length = 0 by omega]; simp [zeros]
      rw [e0]
      exact ⟨hown, Mo.refl _ _, .inl rfl⟩
  · rintro v1 w1 ⟨hown1, hm, hv⟩
    have hbi1 := hbi.mo hm (fun k => hown.ne hbi (by decide) _ (Option.mem_toList.1 k) rfl)
    have hbs1 := hbs.mo hm (fun k => hown.ne hbs (by decide) _ (Option.mem_toList.1 k) rfl)
    have hL : (all ++ zeros ((i + 1) * 512 - all.length)).length = max all.length ((i + 1) * 512) := by rw [List.length_append, zeros_length]; omega
    generalize hall : all ++ zeros ((i + 1) * 512 - all.length) = al at hown1 hL
    have hbl : (bytesV al).length = al.length := bytesV_length al
    obtain ⟨g, cap, rest, rfl, _, hg, hc, hn, hm63⟩ := hown1.blk (by omega)
    refine KW.seq (KW.regionH 5 (by kernel_rfl) (by kernel_rfl) ?_)
    refine HW.val rfl rfl (EX.move rfl) ?_
    refine HW.val rfl rfl (EX.load Tryz.underlying3 rfl rfl (hbi1.cell_of rfl)) ?_
    refine HW.val rfl rfl (by first | exact EX.mulN (b := 512) (m := 9223372036854775807) rfl rfl rfl (by omega) | exact EX.mulZ (m := 9223372036854775807) rfl rfl rfl rfl (by omega)) ?_
    refine HW.val rfl rfl (EX.ownLE Tryz.underlying59 ti5 rfl rfl (by omega)) ?_
    refine HW.val rfl rfl (EX.load Tryz.underlying9 rfl rfl (hbs1.cell_of rfl)) ?_
    refine HW.tail ?_
    refine OW.copyS rfl rfl Tryz.underlying59 Tryz.underlying9 ti5 rfl rfl (by omega) (hg) (by simp [bytesV]; omega) ?_
    rintro w2 hg2 hm2
    refine OW.nil ?_
    refine KW.seq (KW.region ?_)
    refine OW.val rfl rfl (EX.move rfl) ?_
    refine OW.val rfl rfl (EX.assign rfl) ?_
    refine OW.nil ?_
    refine KW.ret (ret1 rfl rfl ?_)
    have e : (Ch.write i s).ap all = al.take (i * 512) ++ s ++ al.drop (i * 512 + s.length) := by simp only [Ch.ap, hall]
    have e2 : ((Ch.write i s).ap all).length = al.length := by rw [e]; simp only [List.length_append, List.length_take, List.length_drop]; omega
    refine ⟨?_, ?_, hv⟩
    · rw [e2]
      refine ⟨by rw [bytesV_length, e2]; simp, .inr ⟨g, cap, rest, rfl, Nat.zero_le _, ?_, by rw [bytesV_length, e2, ← hbl]; exact hc, hn, hm63⟩⟩
      have e3 : (bytesV al ++ rest).take (i * 512) ++ bytesV s ++ (bytesV al ++ rest).drop (i * 512 + s.length) = bytesV ((Ch.write i s).ap all) ++ rest := by
        rw [e, List.take_append_of_le_length (by omega), List.drop_append_of_le_length (by omega)]
        simp [bytesV, List.map_take, List.map_drop]
      rw [← e3]
      exact hg2
    · have hm2' : Mo w1 w2 [g] := (Mo.of_ext (Ext.drew w1) _).trans hm2
      refine ((hm.mono (fun k hk => List.mem_cons_of_mem g hk)).trans (hm2'.mono (by simp))).fresh ?_
      intro k hk hlt
      rcases List.mem_cons.1 hk with rfl | hk
      · rcases hv with e | ⟨g', e, hge⟩
        · rw [← e]; simp [Value.ownBlock]
        · simp [Value.ownBlock] at e; omega
      · exact hk
end Go.Proofs.YtlpnoogcdnfllaaGreatDoor
namespace Go.Proofs.YtlpnoogcdnfllaaGreatDoor
open Go.RowKit Dsk
def boolsV (l : List Bool) : List Value := l.map fun b => .bool b
theorem boolsV_length (l : List Bool) : (boolsV l).length = l.length := by simp [boolsV]
def ChV (w : World) : Ch → Value → Prop
  | .write i s, v => ∃ bi bs : Nat, v = .func (.func 43) (List.toArray []) (List.toArray [.pointer (some ⟨bi, 0, none⟩), .pointer (some ⟨bs, 0, none⟩)]) ∧ Bk w bi 3 [.int .i64 (i : Int)] ∧ Bk w bs 9 [str s]
  | .cut n, v => False
def ChVs (w : World) : List Ch → List Value → Prop
  | [], [] => True
  | c :: cs, v :: vs => ChV w c v ∧ ChVs w cs vs
  | _, _ => False
theorem ChV.tm {w w' : World} {B : Nat} {p : TypeId → Bool} (h : Tm w w' B p) (hi : p 3 = false) (hs : p 9 = false) : ∀ {c : Ch} {v : Value}, ChV w c v → ChV w' c v
  | .write i s, v, ⟨bi, bs, e, h1, h2⟩ => ⟨bi, bs, e, h.bk h1 hi, h.bk h2 hs⟩
  | .cut n, v, h1 => (h1 : False).elim
theorem ChV.one {w : World} : ∀ {c : Ch} {v : Value}, ChV w c v → v.oneCell' = true
  | .write i s, v, ⟨bi, bs, e, h1, h2⟩ => by rw [e]; rfl
  | .cut n, v, h1 => (h1 : False).elim
theorem ChVs.tm {w w' : World} {B : Nat} {p : TypeId → Bool} (h : Tm w w' B p) (hi : p 3 = false) (hs : p 9 = false) : ∀ {cs : List Ch} {vs : List Value}, ChVs w cs vs → ChVs w' cs vs
  | [], [], _ => trivial
  | c :: cs, v :: vs, ⟨h1, h2⟩ => ⟨h1.tm h hi hs, ChVs.tm h hi hs h2⟩
  | [], _ :: _, h => h.elim
  | _ :: _, [], h => h.elim
theorem ChVs.len {w : World} : ∀ {cs : List Ch} {vs : List Value}, ChVs w cs vs → vs.length = cs.length
  | [], [], _ => rfl
  | c :: cs, v :: vs, ⟨_, h2⟩ => by simp [ChVs.len h2]
  | [], _ :: _, h => h.elim
  | _ :: _, [], h => h.elim
theorem ChVs.snoc {w : World} : ∀ {cs : List Ch} {vs : List Value} {c : Ch} {v : Value}, ChVs w cs vs → ChV w c v → ChVs w (cs ++ [c]) (vs ++ [v])
  | [], [], _, _, _, h => ⟨h, trivial⟩
  | c :: cs, v :: vs, _, _, ⟨h1, h2⟩, h => ⟨h1, ChVs.snoc h2 h⟩
  | [], _ :: _, _, _, h, _ => h.elim
  | _ :: _, [], _, _, h, _ => h.elim
theorem ChVs.at_ {w : World} : ∀ {cs : List Ch} {vs : List Value}, ChVs w cs vs → ∀ (j : Nat) (hj : j < cs.length), ∃ v, vs[j]? = some v ∧ ChV w cs[j] v
  | [], [], _, j, hj => by simp at hj
  | c :: cs, v :: vs, ⟨h1, h2⟩, 0, hj => ⟨v, rfl, h1⟩
  | c :: cs, v :: vs, ⟨h1, h2⟩, j + 1, hj => by
    obtain ⟨u, h3, h4⟩ := ChVs.at_ h2 j (by simpa using hj)
    exact ⟨u, by simpa using h3, by simpa using h4⟩
  | [], _ :: _, h, _, _ => h.elim
  | _ :: _, [], h, _, _ => h.elim
structure Dev (w : World) (B b : Nat) (D : Dv) (vk vn vp vq : Value) (vs : List Value) : Prop where
  lo : B ≤ b
  cells : Bk w b 74 [.int .i64 (D.cap : Int), vk, vn, vp, .int .i64 (D.at_ : Int), vq, .bool D.dead, .int .i64 (D.calls : Int)]
  kept : Own w B 5 1 vk D.kept.length (bytesV D.kept)
  now : Own w B 5 1 vn D.now.length (bytesV D.now)
  apart : ∀ k, vk.ownBlock = some k → vn.ownBlock ≠ some k
  pend : Own w B 124 1 vp D.pend.length vs
  chs : ChVs w D.pend vs
  keep : Own w B 4 1 vq D.keep.length (boolsV D.keep)
def DevAt (w : World) (B b : Nat) (D : Dv) : Prop := ∃ vk vn vp vq vs, Dev w B b D vk vn vp vq vs
def dty (T : TypeId) : Bool := T == 74 || T == 124 || T == 5
theorem DevAt.ext {w w' : World} {B b : Nat} {D : Dv} (h : DevAt w B b D) (hx : Ext w w') : DevAt w' B b D := by
  obtain ⟨vk, vn, vp, vq, vs, h1, h2, h3, h4, h5, h6, h7, h8⟩ := h
  exact ⟨vk, vn, vp, vq, vs, h1, h2.ext hx, h3.ext hx, h4.ext hx, h5, h6.ext hx, h7.tm (Tm.of_ext hx 0 (fun _ => false)) rfl rfl, h8.ext hx⟩
theorem DevAt.lt {w : World} {B b : Nat} {D : Dv} (h : DevAt w B b D) : B ≤ b ∧ b < w.heap.size := by
  obtain ⟨vk, vn, vp, vq, vs, h⟩ := h
  exact ⟨h.lo, h.cells.lt⟩
section
variable {w : World} {B b : Nat} {D : Dv}
theorem none_d (h : DevAt w B b D) (hD : D.Ok) : Ret Tryz.prog 30 [.pointer (some ⟨b, 0, none⟩)] w fun v w' => v = .bool false ∧ w = w' := by
  obtain ⟨vk, vn, vp, vq, vs, h⟩ := h
  have hc := hD.cap
  refine Ret.enter Tryz.func30 rfl Tryz.ntmps30 (by kernel_rfl) rfl ?_
  refine KW.seq (KW.region ?_)
  refine OW.val rfl rfl (EX.assign rfl) ?_
  refine OW.nil ?_
  refine KW.seq ?_
  refine KW.region ?_
  refine OW.val rfl rfl (EX.move rfl) ?_
  refine OW.val rfl rfl (by first | exact EX.eqlP1 Tryz.underlying32 rfl rfl | exact EX.eqlP0 Tryz.underlying32 rfl rfl) ?_
  refine OW.val rfl rfl (EX.move rfl) ?_
  refine OW.val rfl rfl (EX.move rfl) ?_
  refine OW.val rfl rfl (EX.nilCheck rfl) ?_
  refine OW.val rfl rfl (EX.fieldAddr (off := 0) Tryz.underlying74 rfl rfl ti3 rfl rfl) ?_
  refine OW.val rfl rfl (EX.load Tryz.underlying3 rfl rfl (h.cells.cell_of rfl)) ?_
  refine OW.val rfl rfl (by first | exact EX.eqlN (b := 0) rfl rfl | exact EX.eqlZ rfl rfl) ?_
  refine OW.val rfl rfl (EX.pickF rfl rfl) ?_
  refine OW.val rfl rfl (EX.assign rfl) ?_
  refine OW.nil ?_
  refine KW.as 2 (.bool false) rfl (congrArg Value.bool (decide_eq_false (by omega))) ?_
  refine KW.ret (ret1 rfl rfl ?_)
  exact ⟨by simp, rfl⟩
theorem alive_d (h : DevAt w B b D) (hD : D.Ok) : Ret Tryz.prog 41 [.pointer (some ⟨b, 0, none⟩)] w fun v w' => v = .int .i64 ((if D.dead then 190 else 0 : Nat) : Int) ∧ w = w' := by
  have h0 := h
  obtain ⟨vk, vn, vp, vq, vs, h⟩ := h
  refine Ret.enter Tryz.func41 rfl Tryz.ntmps41 (by kernel_rfl) rfl ?_
  refine KW.seq (KW.region ?_)
  refine OW.val rfl rfl (EX.assign rfl) ?_
  refine OW.nil ?_
  refine KW.seq (KW.block (KW.seq (KW.region ?_)))
  refine OW.val rfl rfl (EX.move rfl) ?_
  refine OW.call rfl rfl rfl (none_d h0 hD) ?_
  rintro _ _ ⟨rfl, rfl⟩
  refine OW.val rfl rfl (EX.assign rfl) ?_
  refine OW.nil ?_
  refine KW.condF rfl (KW.seq (KW.region ?_))
  refine OW.val rfl rfl (EX.move rfl) ?_
  refine OW.val rfl rfl (EX.nilCheck rfl) ?_
  refine OW.val rfl rfl (EX.fieldAddr (off := 6) Tryz.underlying74 rfl rfl ti4 rfl rfl) ?_
  refine OW.val rfl rfl (EX.load Tryz.underlying4 rfl rfl (h.cells.cell_of rfl)) ?_
  refine OW.val rfl rfl (EX.assign rfl) ?_
  refine OW.nil ?_
  refine KW.cond rfl (fun hd => ?_) (fun hd => ?_)
  · refine KW.seq (KW.region ?_)
    refine OW.val rfl rfl (EX.assign rfl) ?_
    refine OW.nil ?_
    refine KW.ret (ret1 rfl rfl ?_)
    rw [hd]
    exact ⟨rfl, rfl⟩
  · refine KW.skip (KW.leave (KW.seq (KW.region ?_)))
    refine OW.val rfl rfl (EX.assign rfl) ?_
    refine OW.nil ?_
    refine KW.ret (ret1 rfl rfl ?_)
    rw [hd]
    exact ⟨rfl, rfl⟩
end
theorem chV_call {w : World} {c : Ch} {v : Value} (h : ChV w c v) {cap : Nat} (hok : c.ok cap) (hcap : cap ≤ 4096) {u : Value} {all : List UInt8} (hown : Own w 0 5 1 u all.length (bytesV all)) (hl : all.length ≤ 100000000) :
    ∃ (f : FuncId) (cs : List Value), v = .func (.func f) (List.toArray []) (List.toArray cs) ∧ Ret Tryz.prog f ([u] ++ cs) w fun v' w' => Chd w w' u v' (c.ap all) := by
  cases c with
  | write i s =>
    obtain ⟨bi, bs, rfl, h1, h2⟩ := h
    exact ⟨_, _, rfl, write1_c bi bs i s u all w h1 h2 hown (by have := hok.1; omega) hok.2 (by omega)⟩
  | cut n =>
    exact (h : False).elim
section
variable {w w' : World} {B b : Nat} {D D' : Dv} {vk vn vp vq vk' vn' vp' vq' : Value} {vs vs' : List Value}
theorem Dev.after {l0 : List Value} (hlo : B ≤ b) (h0 : Bk w b 74 l0) (hm : Mo w w' [b])
    (hb : Bk w' b 74 [.int .i64 (D'.cap : Int), vk', vn', vp', .int .i64 (D'.at_ : Int), vq', .bool D'.dead, .int .i64 (D'.calls : Int)])
    (hk : Own w B 5 1 vk' D'.kept.length (bytesV D'.kept)) (hn : Own w B 5 1 vn' D'.now.length (bytesV D'.now)) (ha : ∀ k, vk'.ownBlock = some k → vn'.ownBlock ≠ some k)
    (hp : Own w B 124 1 vp' D'.pend.length vs') (hc : ChVs w D'.pend vs') (hq : Own w B 4 1 vq' D'.keep.length (boolsV D'.keep)) : Dev w' B b D' vk' vn' vp' vq' vs' := by
  have tm := Tm.set h0 hm hlo
  exact ⟨hlo, hb, tm.own hk rfl, tm.own hn rfl, ha, tm.own hp rfl, hc.tm tm rfl rfl, tm.own hq rfl⟩
theorem Dev.tmD {l0 : List Value} (hlo : B ≤ b) (h0 : Bk w b 74 l0) (hm : Mo w w' [b]) : Tm w w' B dty := (Tm.set h0 hm hlo).mono fun T hT => by simp at hT; simp [dty, hT]
theorem Dev.ext (h : Dev w B b D vk vn vp vq vs) (hx : Ext w w') : Dev w' B b D vk vn vp vq vs :=
  ⟨h.lo, h.cells.ext hx, h.kept.ext hx, h.now.ext hx, h.apart, h.pend.ext hx, h.chs.tm (Tm.of_ext hx 0 (fun _ => false)) rfl rfl, h.keep.ext hx⟩
end
theorem Own.noneEmpty {w : World} {B T n c : Nat} {xs : List Value} {A : Option Addr} (h : Own w B T 1 (.slice A n c) n xs) : A = none → xs = [] := by
  rintro rfl
  rcases h.2 with ⟨e, rfl⟩ | ⟨g, cap, rest, e, _⟩
  · exact List.eq_nil_of_length_eq_zero (by simpa using h.1)
  · simp at e
theorem does_go {D : Dv} {c : Option Ch} (h : (D.pushed c).at_ ≠ 1) : D.does c = (Dv.done { D.pushed c with at_ := (D.pushed c).at_ - 1 } c, 0) := by
  unfold Dv.does
  simp only
  split
  · rename_i h0
    have : ({ D.pushed c with at_ := (D.pushed c).at_ - 1 } : Dv) = D.pushed c := by
      generalize D.pushed c = E at h0
      cases E
      simp at h0
      simp [h0]
    rw [this]
  · first | rfl | rw [if_neg h]
theorem does_fall {D : Dv} {c : Option Ch} (h : (D.pushed c).at_ = 1) : D.does c = ({ D.pushed c with kept := fallen (D.pushed c).pend (D.pushed c).keep (D.pushed c).kept, now := fallen (D.pushed c).pend (D.pushed c).keep (D.pushed c).kept, pend := [], at_ := 0, keep := [], dead := true }, 190) := by
  unfold Dv.does
  simp only
  rw [if_neg (by omega), if_pos h]
theorem fallen_step {cs : List Ch} {bs : List Bool} {all : List UInt8} {k : Nat} (h : k < cs.length) : fallen (cs.take (k + 1)) bs all = if bs.getD k false then (cs[k]).ap (fallen (cs.take k) bs all) else fallen (cs.take k) bs all := by
  have e : cs.take (k + 1) = cs.take k ++ [cs[k]] := by rw [List.take_add_one, List.getElem?_eq_getElem h]; rfl
  rw [e, fallen_snoc, List.length_take, Nat.min_eq_left (by omega)]
theorem Dev.at_ {w : World} {B b : Nat} {D : Dv} {vk vn vp vq : Value} {vs : List Value} (h : Dev w B b D vk vn vp vq vs) : DevAt w B b D := ⟨_, _, _, _, _, h⟩
def Kp (w w' : World) (b : Nat) (v1 v2 v3 : Value) : Prop := ∀ g T l, g ≠ b → v1.ownBlock ≠ some g → v2.ownBlock ≠ some g → v3.ownBlock ≠ some g → Bk w g T l → Bk w' g T l
theorem Kp.refl (w : World) (b : Nat) (v1 v2 v3 : Value) : Kp w w b v1 v2 v3 := fun _ _ _ _ _ _ _ h => h
theorem Kp.ext {w w1 w2 : World} {b : Nat} {v1 v2 v3 : Value} (h : Kp w w1 b v1 v2 v3) (hx : Ext w1 w2) : Kp w w2 b v1 v2 v3 := fun g T l a1 a2 a3 a4 hb => (h g T l a1 a2 a3 a4 hb).ext hx
theorem Kp.mo {w w1 w2 : World} {b : Nat} {v1 v2 v3 : Value} {S : List Nat} (h : Kp w w1 b v1 v2 v3) (hm : Mo w1 w2 S) (hS : ∀ k ∈ S, k = b ∨ v1.ownBlock = some k ∨ v2.ownBlock = some k ∨ v3.ownBlock = some k ∨ w.heap.size ≤ k) : Kp w w2 b v1 v2 v3 := fun g T l a1 a2 a3 a4 hb => (h g T l a1 a2 a3 a4 hb).mo hm (fun q => by
  rcases hS g q with e | e | e | e | e
  · exact a1 e
  · exact a2 e
  · exact a3 e
  · exact a4 e
  · exact absurd hb.lt (by omega))
theorem Kp.b {w w1 w2 : World} {b : Nat} {v1 v2 v3 : Value} (h : Kp w w1 b v1 v2 v3) (hm : Mo w1 w2 [b]) : Kp w w2 b v1 v2 v3 := h.mo hm (by simp)
theorem does_x {w : World} {B b : Nat} {D : Dv} {vk vn vp vq : Value} {vs : List Value} (h : Dev w B b D vk vn vp vq vs) (hD : D.Ok) (vc : Value) (c : Option Ch) (hcn : c = none → vc = .nilFunc) (hcs : ∀ d, c = some d → ChV w d vc ∧ d.ok D.cap)
    (hcalls : D.calls ≤ 1000000) (hpl : D.pend.length ≤ 1000000) (hat : D.at_ ≤ 9223372036854775807) (hkl : D.keep.length ≤ 140737488355328) :
    Ret Tryz.prog 42 [.pointer (some ⟨b, 0, none⟩), vc] w fun v w' => v = .int .i64 (((D.does c).2 : Nat) : Int) ∧ DevAt w' B b (D.does c).1 ∧ Tm w w' B dty ∧ Kp w w' b vk vn vp := by
  have h0 := h.at_
  have hq : vc = .nilFunc ∧ c.isSome = false ∨ ∃ f fi ca, vc = .func f fi ca ∧ c.isSome = true := by
    cases c with
    | none => exact .inl ⟨hcn rfl, rfl⟩
    | some d =>
      obtain ⟨h1, _⟩ := hcs d rfl
      cases d with
      | write i s => obtain ⟨bi, bs, e, _⟩ := h1; exact .inr ⟨_, _, _, e, rfl⟩
      | cut n => exact (h1 : False).elim
  have hE := pushed_ok hD (fun d hd => (hcs d hd).2)
  have hlt := h0.lt
  have hvl := h.chs.len
  refine Ret.enter Tryz.func42 rfl Tryz.ntmps42 (by kernel_rfl) rfl ?_
  refine KW.seq (KW.region ?_)
  refine OW.val rfl rfl (EX.assign rfl) ?_
  refine OW.nil ?_
  refine KW.seq (KW.seq (KW.region ?_))
  refine OW.val rfl rfl (EX.move rfl) ?_
  refine OW.val rfl rfl (EX.neqFb Tryz.underlying124 rfl rfl hq) ?_
  refine OW.nil ?_
  refine KW.cut3 (fun (w1 : World) (vp1 : Value) (vs1 : List Value) => Dev w1 B b (D.pushed c) vk vn vp1 vq vs1 ∧ Tm w w1 B dty ∧ Kp w w1 b vk vn vp) (fun (w1 : World) (vp1 : Value) (vs1 : List Value) => [(0, .pointer (some ⟨b, 0, none⟩)), (1, vc)]) (fun (w1 : World) (vp1 : Value) (vs1 : List Value) => w1) ?_ ?_
  · refine KW.cond rfl (fun hc => ?_) (fun hc => ?_)
    · obtain ⟨ch, rfl⟩ := Option.isSome_iff_exists.1 hc
      have hv := (hcs ch rfl).1
      have hv1 := hv.one
      refine KW.region ?_
      refine OW.val rfl rfl (EX.move rfl) ?_
      refine OW.val rfl rfl (EX.move rfl) ?_
      refine OW.val rfl rfl (EX.nilCheck rfl) ?_
      refine OW.val rfl rfl (EX.fieldAddr (off := 3) Tryz.underlying74 rfl rfl ti69 rfl rfl) ?_
      refine OW.val rfl rfl (EX.load Tryz.underlying69 rfl rfl (h.cells.cell_of rfl)) ?_
      refine OW.val rfl rfl (EX.move rfl) ?_
      refine OW.buildB 1 rfl rfl Tryz.underlying69 ti124 rfl rfl rfl rfl (by first | rfl | (simp only [List.all_cons, List.all_nil, Bool.and_true, Bool.and_eq_true]; assumption)) (by decide) ?_
      rintro bq w2 hge hb2 hx2
      have h2 := h.ext hx2
      refine OW.append 0 rfl rfl Tryz.underlying69 ti124 rfl (by decide) rfl rfl ((h2.pend.more (Nat.zero_le _))) (Src.of_sl Tryz.underlying69 hb2.sl (by simp) (by simp [hv1]) (by decide)) (by simp only [maxLen]; omega) (by omega) (Nat.zero_le _) ?_
      rintro v3 w3 hown3 hg3 hv3
      refine OW.val rfl rfl (EX.nilCheck rfl) ?_
      refine OW.val rfl rfl (EX.fieldAddr (off := 3) Tryz.underlying74 rfl rfl ti69 rfl rfl) ?_
      have t3 : Tm w2 w3 B (fun U => U == 124) := Tm.grown h2.pend hg3
      have hd3 := t3.bk h2.cells rfl
      have hown3' : Own w3 B 124 1 v3 (D.pend.length + 1) (vs ++ [vc]) := hown3.base (by
        intro k hk
        rcases hv3 with e | e
        · exact (h2.pend.lt k (by rw [← e]; exact hk)).1
        · rw [e] at hk; injection hk with hk; have := hx2.size; omega)
      have hv31 := hown3.one
      refine OW.storeB rfl ti69 rfl rfl (by first | rfl | assumption | exact Own.one (by assumption)) (hd3) (by simp) ?_
      rintro w4 hb4 hm4
      refine OW.nil ?_
      refine KW.meet3 (w4) (v3) (vs ++ [vc]) ⟨rfl, rfl, trivial⟩ rfl ?_
      refine ⟨Dev.after (D' := D.pushed (some ch)) h.lo hd3 hm4 hb4 (t3.own h2.kept rfl) (t3.own h2.now rfl) h.apart ?_ ((h2.chs.tm t3 rfl rfl).snoc ((hv.tm (Tm.of_ext hx2 0 (fun _ => false)) rfl rfl).tm t3 rfl rfl)) (t3.own h2.keep rfl), ?_, (((Kp.refl w b vk vn vp).ext hx2).mo (Mo.grown hg3 (fun k e => by rw [e]; simp)) (fun k hk => .inr (.inr (.inr (.inl (Option.mem_toList.1 hk)))))).b hm4⟩
      · have : (D.pushed (some ch)).pend.length = D.pend.length + 1 := by simp [Dv.pushed]
        rw [this]; exact hown3'
      · exact ((Tm.of_ext hx2 B dty).trans (t3.mono fun T hT => by simp at hT; simp [dty, hT])).trans (Dev.tmD h.lo hd3 hm4)
    · obtain rfl : c = none := by cases c; rfl; simp at hc
      refine KW.skip ?_
      refine KW.meet3 (w) (vp) (vs) ⟨rfl, rfl, trivial⟩ rfl ?_
      exact ⟨h, Tm.refl _ _ _, Kp.refl _ _ _ _ _⟩
  · rintro w1 vp1 vs1 ⟨h1, ht1, kp1⟩
    generalize hEd : D.pushed c = E at h1 hE
    have hEc : E.cap = D.cap := by rw [← hEd, pushed_cap]
    have hEat : E.at_ = D.at_ := by rw [← hEd]; cases c <;> rfl
    have hEk : E.keep = D.keep := by rw [← hEd]; cases c <;> rfl
    have hEl : E.pend.length ≤ 1000001 := by
      rw [← hEd]
      cases c with
      | none => exact Nat.le_succ_of_le hpl
      | some c => simp [Dv.pushed]; omega
    have hvl1 := h1.chs.len
    refine KW.seq (KW.seq (KW.region ?_))
    refine OW.val rfl rfl (EX.move rfl) ?_
    refine OW.val rfl rfl (EX.nilCheck rfl) ?_
    refine OW.val rfl rfl (EX.fieldAddr (off := 4) Tryz.underlying74 rfl rfl ti72 rfl rfl) ?_
    refine OW.val rfl rfl (EX.fieldAddr (off := 0) Tryz.underlying72 rfl rfl ti3 rfl rfl) ?_
    refine OW.val rfl rfl (EX.load Tryz.underlying3 rfl rfl (h1.cells.cell_of rfl)) ?_
    refine OW.val rfl rfl (by first | exact EX.gtrN (b := 0) rfl rfl | exact EX.gtrZ rfl rfl) ?_
    refine OW.nil ?_
    refine KW.cut1 (fun (w2 : World) => Dev w2 B b { E with at_ := E.at_ - 1 } vk vn vp1 vq vs1 ∧ Tm w w2 B dty ∧ E.at_ ≠ 1 ∧ Kp w w2 b vk vn vp) (fun (w2 : World) => [(0, .pointer (some ⟨b, 0, none⟩)), (1, vc)]) (fun (w2 : World) => w2) ?_ ?_
    · refine KW.condD rfl (fun hat1 => ?_) (fun hat1 => ?_)
      · refine KW.seq (KW.region ?_)
        refine OW.val rfl rfl (EX.move rfl) ?_
        refine OW.val rfl rfl (EX.nilCheck rfl) ?_
        refine OW.val rfl rfl (EX.fieldAddr (off := 4) Tryz.underlying74 rfl rfl ti72 rfl rfl) ?_
        refine OW.val rfl rfl (EX.fieldAddr (off := 0) Tryz.underlying72 rfl rfl ti3 rfl rfl) ?_
        refine OW.val rfl rfl (EX.load Tryz.underlying3 rfl rfl (h1.cells.cell_of rfl)) ?_
        refine OW.val rfl rfl (by first | exact EX.subN (b := 1) (m := 9223372036854775807) rfl rfl rfl (by omega) | exact EX.subZ (m := 9223372036854775807) rfl rfl rfl rfl (by omega)) ?_
        refine OW.val rfl rfl (EX.nilCheck rfl) ?_
        refine OW.val rfl rfl (EX.fieldAddr (off := 4) Tryz.underlying74 rfl rfl ti72 rfl rfl) ?_
        refine OW.val rfl rfl (EX.fieldAddr (off := 0) Tryz.underlying72 rfl rfl ti3 rfl rfl) ?_
        refine OW.storeB rfl ti3 rfl rfl (by first | rfl | assumption | exact Own.one (by assumption)) (h1.cells) (by simp) ?_
        rintro w2 hb2 hm2
        refine OW.nil ?_
        refine KW.seq (KW.region ?_)
        refine OW.val rfl rfl (EX.move rfl) ?_
        refine OW.val rfl rfl (EX.nilCheck rfl) ?_
        refine OW.val rfl rfl (EX.fieldAddr (off := 4) Tryz.underlying74 rfl rfl ti72 rfl rfl) ?_
        refine OW.val rfl rfl (EX.fieldAddr (off := 0) Tryz.underlying72 rfl rfl ti3 rfl rfl) ?_
        have h2 : Dev w2 B b { E with at_ := E.at_ - 1 } vk vn vp1 vq vs1 := Dev.after h1.lo h1.cells hm2 hb2 h1.kept h1.now h1.apart h1.pend h1.chs h1.keep
        have ht2 : Tm w w2 B dty := ht1.trans (Dev.tmD h1.lo h1.cells hm2)
        have kp2 := kp1.b hm2
        refine OW.val rfl rfl (EX.load Tryz.underlying3 rfl rfl (h2.cells.cell_of rfl)) ?_
        refine OW.val rfl rfl (by first | exact EX.eqlN (b := 0) rfl rfl | exact EX.eqlZ rfl rfl) ?_
        refine OW.nil ?_
        refine KW.condD rfl (fun hz => ?_) (fun hz => ?_)
        · have hz1 : E.at_ = 1 := by have : E.at_ - 1 = 0 := hz; omega
          obtain ⟨A, cp, rfl, hcp, hslp⟩ := h2.pend.slice
          obtain ⟨Aq, cq, rfl, hcq, hslq⟩ := h2.keep.slice
          have hkk : E.keep.length ≤ 140737488355328 := by rw [hEk]; exact hkl
          refine KW.seq (KW.seq (KW.region ?_))
          refine OW.val rfl rfl (EX.move rfl) ?_
          refine OW.val rfl rfl (EX.nilCheck rfl) ?_
          refine OW.val rfl rfl (EX.fieldAddr (off := 3) Tryz.underlying74 rfl rfl ti69 rfl rfl) ?_
          refine OW.val rfl rfl (EX.load Tryz.underlying69 rfl rfl (h2.cells.cell_of rfl)) ?_
          refine OW.val rfl rfl (EX.lenA Tryz.underlying69 rfl) ?_
          refine OW.val rfl rfl (EX.move rfl) ?_
          refine OW.nil ?_
          refine KW.block ?_
          refine KW.loop4 (fun (k : Nat) (vkr : Value) (all : List UInt8) (wr : World) => k ≤ E.pend.length ∧ all = fallen (E.pend.take k) E.keep E.kept ∧ all.length ≤ 512 * E.cap ∧ Dev wr B b { E with at_ := 0, kept := all } vkr vn (.slice A E.pend.length cp) (.slice Aq E.keep.length cq) vs1 ∧ Tm w wr B dty ∧ Kp w wr b vk vn vp ∧ (∀ k, vkr.ownBlock = some k → vk.ownBlock = some k ∨ w.heap.size ≤ k)) (fun (k : Nat) (vkr : Value) (all : List UInt8) (wr : World) => [(0, .pointer (some ⟨b, 0, none⟩)), (43, .slice A E.pend.length cp), (44, .int .i64 ((E.pend.length : Nat) : Int)), (45, .int .i64 ((k : Nat) : Int))]) (fun (k : Nat) (vkr : Value) (all : List UInt8) (wr : World) => wr) (fun (k : Nat) (vkr : Value) (all : List UInt8) (wr : World) => E.pend.length - k) (0) (vk) (E.kept) (w2) ⟨rfl, rfl, rfl, rfl, trivial⟩ rfl ?_ ?_
          · refine ⟨by omega, by simp [fallen], hE.kept, ?_, ht2, kp2, fun k hk => .inl hk⟩
            have : E.at_ - 1 = 0 := by omega
            rw [← this]
            exact h2
          · rintro k vkr all wr ⟨hk, hall, hal, hd, htr, kpr, hvk⟩
            have hcapE := hE.cap
            refine KW.seq (KW.region ?_)
            refine OW.val rfl rfl (by first | exact EX.lssN rfl rfl | exact EX.lssZ rfl rfl) ?_
            refine OW.nil ?_
            refine KW.seq ?_
            refine KW.condD rfl (fun hk1 => ?_) (fun hk1 => ?_)
            · obtain ⟨v, hv, hcv⟩ := hd.chs.at_ k hk1
              have hone := hcv.one
              obtain ⟨g, cap', rest, e, hgB, hg, hgl, hgn, hgm⟩ := hd.pend.blk (by rw [hvl1]; omega)
              simp only [Value.slice.injEq, true_and] at e
              obtain ⟨rfl, rfl⟩ := e
              have hvg : (vs1 ++ rest)[k]? = some v := by rw [List.getElem?_append_left (by rw [hvl1]; exact hk1)]; exact hv
              have hstep := fallen_step (bs := E.keep) (all := E.kept) hk1
              rw [← hall] at hstep
              refine KW.skip (KW.seq (KW.block (KW.seq (KW.region ?_))))
              refine OW.val rfl rfl (EX.move rfl) ?_
              refine OW.val rfl rfl (by first | exact EX.indexAddrS0 Tryz.underlying69 ti124 rfl rfl (by omega) | exact EX.indexAddrS1 Tryz.underlying69 ti124 rfl rfl (by omega)) ?_
              refine OW.val rfl rfl (EX.load Tryz.underlying124 rfl rfl (hg.cell_of hvg)) ?_
              refine OW.val rfl rfl (EX.assign rfl) ?_
              refine OW.val rfl rfl (EX.assign rfl) ?_
              refine OW.nil ?_
              refine KW.seq ?_
              refine KW.region ?_
              refine OW.val rfl rfl (EX.move rfl) ?_
              refine OW.val rfl rfl (EX.move rfl) ?_
              refine OW.val rfl rfl (EX.nilCheck rfl) ?_
              refine OW.val rfl rfl (EX.fieldAddr (off := 4) Tryz.underlying74 rfl rfl ti72 rfl rfl) ?_
              refine OW.val rfl rfl (EX.fieldAddr (off := 1) Tryz.underlying72 rfl rfl ti70 rfl rfl) ?_
              refine OW.val rfl rfl (EX.load Tryz.underlying70 rfl rfl (hd.cells.cell_of rfl)) ?_
              refine OW.val rfl rfl (EX.lenA Tryz.underlying70 rfl) ?_
              refine OW.val rfl rfl (by first | exact EX.lssN rfl rfl | exact EX.lssZ rfl rfl) ?_
              refine OW.val rfl rfl (EX.move rfl) ?_
              refine OW.splitD 58 rfl (fun hk2 => ?_) (fun hk2 => ?_)
              · have hgd : E.keep.getD k false = E.keep[k] := by simp [List.getD, List.getElem?_eq_getElem hk2]
                rw [hgd] at hstep
                obtain ⟨gq, capq, restq, eq, hgqB, hgq, _, _, _⟩ := hd.keep.blk (by rw [boolsV_length]; exact Nat.lt_of_le_of_lt (Nat.zero_le _) hk2)
                simp only [Value.slice.injEq, true_and] at eq
                obtain ⟨rfl, rfl⟩ := eq
                have hbg : (boolsV E.keep ++ restq)[k]? = some (.bool E.keep[k]) := by rw [List.getElem?_append_left (by rw [boolsV_length]; exact hk2)]; simp [boolsV, hk2]
                refine OW.val rfl rfl (EX.move rfl) ?_
                refine OW.val rfl rfl (EX.nilCheck rfl) ?_
                refine OW.val rfl rfl (EX.fieldAddr (off := 4) Tryz.underlying74 rfl rfl ti72 rfl rfl) ?_
                refine OW.val rfl rfl (EX.fieldAddr (off := 1) Tryz.underlying72 rfl rfl ti70 rfl rfl) ?_
                refine OW.val rfl rfl (EX.load Tryz.underlying70 rfl rfl (hd.cells.cell_of rfl)) ?_
                refine OW.val rfl rfl (EX.move rfl) ?_
                refine OW.val rfl rfl (by first | exact EX.indexAddrS0 Tryz.underlying70 ti4 rfl rfl (by omega) | exact EX.indexAddrS1 Tryz.underlying70 ti4 rfl rfl (by omega)) ?_
                refine OW.val rfl rfl (EX.load Tryz.underlying4 rfl rfl (hgq.cell_of hbg)) ?_
                refine OW.val rfl rfl (EX.pickT rfl rfl) ?_
                refine OW.nil ?_
                refine KW.cond rfl (fun hb => ?_) (fun hb => ?_)
                · rw [if_pos hb] at hstep
                  obtain ⟨f, cs, rfl, hret⟩ := chV_call hcv (hE.pend _ (List.getElem_mem hk1)) hcapE.2 (hd.kept.more (Nat.zero_le _)) (by show all.length ≤ 100000000; omega)
                  refine KW.region ?_
                  refine OW.val rfl rfl (EX.move rfl) ?_
                  refine OW.val rfl rfl (EX.move rfl) ?_
                  refine OW.val rfl rfl (EX.move rfl) ?_
                  refine OW.val rfl rfl (EX.nilCheck rfl) ?_
                  refine OW.val rfl rfl (EX.fieldAddr (off := 1) Tryz.underlying74 rfl rfl ti59 rfl rfl) ?_
                  refine OW.val rfl rfl (EX.load Tryz.underlying59 rfl rfl (hd.cells.cell_of rfl)) ?_
                  refine OW.callV rfl rfl rfl rfl rfl (hret) ?_
                  rintro v5 w5 ⟨hown5, hmo5, hbl5⟩
                  refine OW.val rfl rfl (EX.nilCheck rfl) ?_
                  refine OW.val rfl rfl (EX.fieldAddr (off := 1) Tryz.underlying74 rfl rfl ti59 rfl rfl) ?_
                  have t5 : Tm wr w5 B (fun U => U == 5) := Tm.ownMo hd.kept hmo5
                  have hone5 := hown5.one
                  have hnow5 := hd.now.mo hmo5 (fun k hk hkS => hd.apart k (Option.mem_toList.1 hkS) hk)
                  have hap5 : ∀ k, v5.ownBlock = some k → vn.ownBlock ≠ some k := by
                    intro k hk hk'
                    rcases hbl5 with e | ⟨g', e, hge⟩
                    · exact hd.apart k (by rw [← e]; exact hk) hk'
                    · rw [e] at hk; injection hk with hk; have := (hd.now.lt k hk').2; omega
                  have hbase5 : Own w5 B 5 1 v5 ((E.pend[k]).ap all).length (bytesV ((E.pend[k]).ap all)) := hown5.base (by
                    intro k hk
                    rcases hbl5 with e | ⟨g', e, hge⟩
                    · exact (hd.kept.lt k (by rw [← e]; exact hk)).1
                    · rw [e] at hk; injection hk with hk; have := hd.cells.lt; have := hd.lo; omega)
                  refine OW.storeB rfl ti59 rfl rfl (by first | rfl | assumption | exact Own.one (by assumption)) (t5.bk hd.cells rfl) (by simp) ?_
                  rintro w6 hb6 hm6
                  refine OW.nil ?_
                  refine KW.leave (KW.region ?_)
                  refine OW.val rfl rfl (by first | exact EX.addN (b := 1) (m := 9223372036854775807) rfl rfl rfl (by omega) | exact EX.addZ (m := 9223372036854775807) rfl rfl rfl rfl (by omega)) ?_
                  refine OW.val rfl rfl (EX.move rfl) ?_
                  refine OW.nil ?_
                  refine KW.back4 (k + 1) (v5) ((E.pend[k]).ap all) (w6) ⟨rfl, rfl, rfl, rfl, trivial⟩ rfl ?_ (by omega)
                  refine ⟨by omega, hstep.symm, ap_length (hE.pend _ (List.getElem_mem hk1)) hal, ?_, ?_, (kpr.mo hmo5 (fun k hk => by
                    rcases hvk k (Option.mem_toList.1 hk) with e | e
                    · exact .inr (.inl e)
                    · exact .inr (.inr (.inr (.inr e))))).b hm6, fun k hk => by
                    rcases hbl5 with e | ⟨g', e, hge⟩
                    · exact hvk k (by rw [← e]; exact hk)
                    · rw [e] at hk; injection hk with hk; right; have q := htr.size; have q2 := hge; omega⟩
                  · exact Dev.after (D' := { E with at_ := 0, kept := (E.pend[k]).ap all }) hd.lo (t5.bk hd.cells rfl) hm6 hb6 hbase5 hnow5 hap5 (t5.own hd.pend rfl) (hd.chs.tm t5 rfl rfl) (t5.own hd.keep rfl)
                  · exact (htr.trans (t5.mono fun T hT => by simp at hT; simp [dty, hT])).trans (Dev.tmD hd.lo (t5.bk hd.cells rfl) hm6)
                · rw [if_neg (by simp [hb])] at hstep
                  refine KW.skip (KW.leave (KW.region ?_))
                  refine OW.val rfl rfl (by first | exact EX.addN (b := 1) (m := 9223372036854775807) rfl rfl rfl (by omega) | exact EX.addZ (m := 9223372036854775807) rfl rfl rfl rfl (by omega)) ?_
                  refine OW.val rfl rfl (EX.move rfl) ?_
                  refine OW.nil ?_
                  refine KW.back4 (k + 1) (vkr) (all) (wr) ⟨rfl, rfl, rfl, rfl, trivial⟩ rfl ?_ (by omega)
                  exact ⟨by omega, hstep.symm, hal, hd, htr, kpr, hvk⟩
              · have hgd : E.keep.getD k false = false := by simp [List.getD, List.getElem?_eq_none (Nat.le_of_not_lt hk2)]
                rw [hgd] at hstep
                refine OW.pass rfl rfl ?_
                refine OW.pass rfl rfl ?_
                refine OW.pass rfl rfl ?_
                refine OW.pass rfl rfl ?_
                refine OW.pass rfl rfl ?_
                refine OW.pass rfl rfl ?_
                refine OW.pass rfl rfl ?_
                refine OW.pass rfl rfl ?_
                refine OW.val rfl rfl (EX.pickF rfl rfl) ?_
                refine OW.nil ?_
                refine KW.condF rfl (KW.skip (KW.leave (KW.region ?_)))
                refine OW.val rfl rfl (by first | exact EX.addN (b := 1) (m := 9223372036854775807) rfl rfl rfl (by omega) | exact EX.addZ (m := 9223372036854775807) rfl rfl rfl rfl (by omega)) ?_
                refine OW.val rfl rfl (EX.move rfl) ?_
                refine OW.nil ?_
                refine KW.back4 (k + 1) (vkr) (all) (wr) ⟨rfl, rfl, rfl, rfl, trivial⟩ rfl ?_ (by omega)
                exact ⟨by omega, by rw [hstep]; rfl, hal, hd, htr, kpr, hvk⟩
            · obtain rfl : k = E.pend.length := by omega
              rw [List.take_length] at hall
              obtain ⟨Ak, ck, rfl, hck, hslk⟩ := hd.kept.slice
              have hclone := cloneB_c Ak ck (bytesV all) _ wr hslk hd.kept.noneEmpty bytesV_one (by rw [bytesV_length]; omega)
              rw [bytesV_length] at hclone
              refine KW.exit rfl (KW.seq (KW.region ?_))
              refine OW.val rfl rfl (EX.move rfl) ?_
              refine OW.val rfl rfl (EX.move rfl) ?_
              refine OW.val rfl rfl (EX.move rfl) ?_
              refine OW.val rfl rfl (EX.move rfl) ?_
              refine OW.val rfl rfl (EX.move rfl) ?_
              refine OW.val rfl rfl (EX.nilCheck rfl) ?_
              refine OW.val rfl rfl (EX.fieldAddr (off := 1) Tryz.underlying74 rfl rfl ti59 rfl rfl) ?_
              refine OW.val rfl rfl (EX.load Tryz.underlying59 rfl rfl (hd.cells.cell_of rfl)) ?_
              refine OW.call rfl rfl rfl (hclone) ?_
              rintro v7 w7 ⟨hown7, hx7⟩
              refine OW.val rfl rfl (EX.buildS (pl := [(0, 1), (1, 1)]) (ks := []) (is := []) (zs := [.int .i64 0, .slice none 0 0]) Tryz.underlying72 ti72 (by kernel_rfl) rfl rfl rfl (by first | rfl | (simp only [List.all_cons, List.all_nil, Bool.and_true, Bool.true_and, Bool.and_eq_true, Value.oneCell']; repeat (first | assumption | exact Own.one (by assumption) | constructor))) (by simp only [setAll, List.set_cons_zero, List.set_cons_succ]; rfl)) ?_
              refine OW.val rfl rfl (EX.nilCheck rfl) ?_
              refine OW.val rfl rfl (EX.fieldAddr (off := 2) Tryz.underlying74 rfl rfl ti59 rfl rfl) ?_
              have hd7 := hd.ext hx7
              have hone7 := hown7.one
              refine OW.storeB rfl ti59 rfl rfl (by first | rfl | assumption | exact Own.one (by assumption)) (hd7.cells) (by simp) ?_
              rintro w8 hb8 hm8
              refine OW.val rfl rfl (EX.nilCheck rfl) ?_
              refine OW.val rfl rfl (EX.fieldAddr (off := 3) Tryz.underlying74 rfl rfl ti69 rfl rfl) ?_
              refine OW.storeB rfl ti69 rfl rfl (by first | rfl | assumption | exact Own.one (by assumption)) (hb8) (by simp) ?_
              rintro w9 hb9 hm9
              refine OW.val rfl rfl (EX.nilCheck rfl) ?_
              refine OW.val rfl rfl (EX.fieldAddr (off := 4) Tryz.underlying74 rfl rfl ti72 rfl rfl) ?_
              refine OW.storeS rfl ti72 rfl rfl rfl (by first | rfl | (simp only [List.all_cons, List.all_nil, Bool.and_true, Bool.true_and, Bool.and_eq_true, Value.oneCell']; repeat (first | assumption | exact Own.one (by assumption) | constructor))) (hb9) (by simp) ?_
              rintro w10 hb10 hm10
              refine OW.val rfl rfl (EX.nilCheck rfl) ?_
              refine OW.val rfl rfl (EX.fieldAddr (off := 6) Tryz.underlying74 rfl rfl ti4 rfl rfl) ?_
              refine OW.storeB rfl ti4 rfl rfl (by first | rfl | assumption | exact Own.one (by assumption)) (hb10) (by simp) ?_
              rintro w11 hb11 hm11
              refine OW.nil ?_
              refine KW.seq (KW.region ?_)
              refine OW.val rfl rfl (EX.assign rfl) ?_
              refine OW.nil ?_
              refine KW.ret (ret1 rfl rfl ?_)
              have hmm : Mo w7 w11 [b] := ((hm8.trans hm9).trans hm10).trans hm11
              have hEall : all = fallen (D.pushed c).pend (D.pushed c).keep (D.pushed c).kept := by rw [hEd]; exact hall
              rw [does_fall (by rw [hEd]; exact hz1), hEd, ← hall]
              refine ⟨rfl, ⟨_, _, _, _, [], Dev.after (D' := { E with kept := all, now := all, pend := [], at_ := 0, keep := [], dead := true }) hd.lo hd7.cells hmm hb11 hd7.kept (hown7.base (fun k hk => by have := (hown7.lt k hk).1; have := hd.cells.lt; have := hd.lo; omega)) ?_ (Own.nil _ _ _ _) trivial (Own.nil _ _ _ _)⟩, ?_, (kpr.ext hx7).b hmm⟩
              · intro k hk hk'
                have q1 := (hd.kept.lt k hk).2
                have q2 := (hown7.lt k hk').1
                omega
              · exact (htr.trans (Tm.of_ext hx7 B dty)).trans (Dev.tmD hd.lo hd7.cells hmm)
        · refine KW.skip ?_
          refine KW.meet1 (w2) ⟨rfl, rfl, trivial⟩ rfl ?_
          have hz1 : ¬ E.at_ - 1 = 0 := hz
          exact ⟨h2, ht2, by omega, kp2⟩
      · refine KW.skip ?_
        refine KW.meet1 (w1) ⟨rfl, rfl, trivial⟩ rfl ?_
        have e0 : E.at_ = 0 := by omega
        refine ⟨?_, ht1, by omega, kp1⟩
        have : ({ E with at_ := E.at_ - 1 } : Dv) = E := by cases E; simp at e0; simp [e0]
        rw [this]
        exact h1
    · rintro w2 ⟨h2, ht2, hne1, kp2⟩
      have hcapE := hE.cap
      have hnowE := hE.now
      rw [does_go (by rw [hEd]; exact hne1), hEd]
      refine KW.seq (KW.seq (KW.region ?_))
      refine OW.val rfl rfl (EX.move rfl) ?_
      refine OW.val rfl rfl (EX.neqFb Tryz.underlying124 rfl rfl hq) ?_
      refine OW.nil ?_
      refine KW.cond rfl (fun hc => ?_) (fun hc => ?_)
      · obtain ⟨ch, rfl⟩ := Option.isSome_iff_exists.1 hc
        have hv2 : ChV w2 ch vc := (hcs ch rfl).1.tm ht2 rfl rfl
        have hok := (hcs ch rfl).2
        obtain ⟨f, cs, rfl, hret⟩ := chV_call hv2 hok hD.cap.2 (h2.now.more (Nat.zero_le _)) (by show E.now.length ≤ 100000000; omega)
        refine KW.region ?_
        refine OW.val rfl rfl (EX.move rfl) ?_
        refine OW.val rfl rfl (EX.move rfl) ?_
        refine OW.val rfl rfl (EX.move rfl) ?_
        refine OW.val rfl rfl (EX.nilCheck rfl) ?_
        refine OW.val rfl rfl (EX.fieldAddr (off := 2) Tryz.underlying74 rfl rfl ti59 rfl rfl) ?_
        refine OW.val rfl rfl (EX.load Tryz.underlying59 rfl rfl (h2.cells.cell_of rfl)) ?_
        refine OW.callV rfl rfl rfl rfl rfl (hret) ?_
        rintro v5 w5 ⟨hown5, hmo5, hbl5⟩
        refine OW.val rfl rfl (EX.nilCheck rfl) ?_
        refine OW.val rfl rfl (EX.fieldAddr (off := 2) Tryz.underlying74 rfl rfl ti59 rfl rfl) ?_
        have t5 : Tm w2 w5 B (fun U => U == 5) := Tm.ownMo h2.now hmo5
        have hone5 := hown5.one
        have hk5 := h2.kept.mo hmo5 (fun k hk hkS => h2.apart k hk (Option.mem_toList.1 hkS))
        have hap5 : ∀ k, vk.ownBlock = some k → v5.ownBlock ≠ some k := by
          intro k hk' hk
          rcases hbl5 with e | ⟨g', e, hge⟩
          · exact h2.apart k hk' (by rw [← e]; exact hk)
          · rw [e] at hk; injection hk with hk; have := (h2.kept.lt k hk').2; omega
        have hbase5 : Own w5 B 5 1 v5 (ch.ap E.now).length (bytesV (ch.ap E.now)) := hown5.base (by
          intro k hk
          rcases hbl5 with e | ⟨g', e, hge⟩
          · exact (h2.now.lt k (by rw [← e]; exact hk)).1
          · rw [e] at hk; injection hk with hk; have := h2.cells.lt; have := h2.lo; omega)
        refine OW.storeB rfl ti59 rfl rfl (by first | rfl | assumption | exact Own.one (by assumption)) (t5.bk h2.cells rfl) (by simp) ?_
        rintro w6 hb6 hm6
        refine OW.nil ?_
        refine KW.seq (KW.region ?_)
        refine OW.val rfl rfl (EX.move rfl) ?_
        refine OW.val rfl rfl (EX.nilCheck rfl) ?_
        refine OW.val rfl rfl (EX.fieldAddr (off := 7) Tryz.underlying74 rfl rfl ti3 rfl rfl) ?_
        have hEcalls : ({ E with at_ := E.at_ - 1 } : Dv).calls ≤ 1000000 := by show E.calls ≤ 1000000; rw [← hEd]; exact hcalls
        refine OW.val rfl rfl (EX.load Tryz.underlying3 rfl rfl (hb6.cell_of rfl)) ?_
        refine OW.val rfl rfl (by first | exact EX.addN (b := 1) (m := 9223372036854775807) rfl rfl rfl (by omega) | exact EX.addZ (m := 9223372036854775807) rfl rfl rfl rfl (by omega)) ?_
        refine OW.val rfl rfl (EX.nilCheck rfl) ?_
        refine OW.val rfl rfl (EX.fieldAddr (off := 7) Tryz.underlying74 rfl rfl ti3 rfl rfl) ?_
        refine OW.storeB rfl ti3 rfl rfl (by first | rfl | assumption | exact Own.one (by assumption)) (hb6) (by simp) ?_
        rintro w7 hb7 hm7
        refine OW.nil ?_
        refine KW.seq (KW.region ?_)
        refine OW.val rfl rfl (EX.assign rfl) ?_
        refine OW.nil ?_
        refine KW.ret (ret1 rfl rfl ?_)
        have hmm : Mo w5 w7 [b] := hm6.trans hm7
        refine ⟨rfl, ⟨_, _, _, _, _, Dev.after (D' := Dv.done { E with at_ := E.at_ - 1 } (some ch)) h2.lo (t5.bk h2.cells rfl) hmm hb7 hk5 hbase5 hap5 (t5.own h2.pend rfl) (h2.chs.tm t5 rfl rfl) (t5.own h2.keep rfl)⟩, ?_, (kp2.mo hmo5 (fun k hk => .inr (.inr (.inl (Option.mem_toList.1 hk))))).b hmm⟩
        exact (ht2.trans (t5.mono fun T hT => by simp at hT; simp [dty, hT])).trans (Dev.tmD h2.lo (t5.bk h2.cells rfl) hmm)
      · obtain rfl : c = none := by cases c; rfl; simp at hc
        obtain ⟨An, cn, rfl, hcn2, hsln⟩ := h2.now.slice
        have hclone := cloneB_c An cn (bytesV E.now) _ w2 hsln h2.now.noneEmpty bytesV_one (by rw [bytesV_length]; omega)
        rw [bytesV_length] at hclone
        have hEcalls : ({ E with at_ := E.at_ - 1 } : Dv).calls ≤ 1000000 := by show E.calls ≤ 1000000; rw [← hEd]; exact hcalls
        refine KW.region ?_
        refine OW.val rfl rfl (EX.move rfl) ?_
        refine OW.val rfl rfl (EX.move rfl) ?_
        refine OW.val rfl rfl (EX.move rfl) ?_
        refine OW.val rfl rfl (EX.nilCheck rfl) ?_
        refine OW.val rfl rfl (EX.fieldAddr (off := 2) Tryz.underlying74 rfl rfl ti59 rfl rfl) ?_
        refine OW.val rfl rfl (EX.load Tryz.underlying59 rfl rfl (h2.cells.cell_of rfl)) ?_
        refine OW.call rfl rfl rfl (hclone) ?_
        rintro v7 w7 ⟨hown7, hx7⟩
        refine OW.val rfl rfl (EX.nilCheck rfl) ?_
        refine OW.val rfl rfl (EX.fieldAddr (off := 1) Tryz.underlying74 rfl rfl ti59 rfl rfl) ?_
        have hd7 := h2.ext hx7
        have hone7 := hown7.one
        refine OW.storeB rfl ti59 rfl rfl (by first | rfl | assumption | exact Own.one (by assumption)) (hd7.cells) (by simp) ?_
        rintro w8 hb8 hm8
        refine OW.val rfl rfl (EX.nilCheck rfl) ?_
        refine OW.val rfl rfl (EX.fieldAddr (off := 3) Tryz.underlying74 rfl rfl ti69 rfl rfl) ?_
        refine OW.storeB rfl ti69 rfl rfl (by first | rfl | assumption | exact Own.one (by assumption)) (hb8) (by simp) ?_
        rintro w9 hb9 hm9
        refine OW.nil ?_
        refine KW.seq (KW.region ?_)
        refine OW.val rfl rfl (EX.move rfl) ?_
        refine OW.val rfl rfl (EX.nilCheck rfl) ?_
        refine OW.val rfl rfl (EX.fieldAddr (off := 7) Tryz.underlying74 rfl rfl ti3 rfl rfl) ?_
        refine OW.val rfl rfl (EX.load Tryz.underlying3 rfl rfl (hb9.cell_of rfl)) ?_
        refine OW.val rfl rfl (by first | exact EX.addN (b := 1) (m := 9223372036854775807) rfl rfl rfl (by omega) | exact EX.addZ (m := 9223372036854775807) rfl rfl rfl rfl (by omega)) ?_
        refine OW.val rfl rfl (EX.nilCheck rfl) ?_
        refine OW.val rfl rfl (EX.fieldAddr (off := 7) Tryz.underlying74 rfl rfl ti3 rfl rfl) ?_
        refine OW.storeB rfl ti3 rfl rfl (by first | rfl | assumption | exact Own.one (by assumption)) (hb9) (by simp) ?_
        rintro w10 hb10 hm10
        refine OW.nil ?_
        refine KW.seq (KW.region ?_)
        refine OW.val rfl rfl (EX.assign rfl) ?_
        refine OW.nil ?_
        refine KW.ret (ret1 rfl rfl ?_)
        have hmm : Mo w7 w10 [b] := (hm8.trans hm9).trans hm10
        refine ⟨rfl, ⟨_, _, _, _, [], Dev.after (D' := Dv.done { E with at_ := E.at_ - 1 } none) h2.lo hd7.cells hmm hb10 (hown7.base (fun k hk => by have := (hown7.lt k hk).1; have := h2.cells.lt; have := h2.lo; omega)) hd7.now ?_ (Own.nil _ _ _ _) trivial hd7.keep⟩, ?_, (kp2.ext hx7).b hmm⟩
        · intro k hk hk'
          have q1 := (h2.now.lt k hk').2
          have q2 := (hown7.lt k hk).1
          omega
        · exact (ht2.trans (Tm.of_ext hx7 B dty)).trans (Dev.tmD h2.lo hd7.cells hmm)
theorem does_c {w : World} {B b : Nat} {D : Dv} (h0 : DevAt w B b D) (hD : D.Ok) (vc : Value) (c : Option Ch) (hcn : c = none → vc = .nilFunc) (hcs : ∀ d, c = some d → ChV w d vc ∧ d.ok D.cap)
    (hcalls : D.calls ≤ 1000000) (hpl : D.pend.length ≤ 1000000) (hat : D.at_ ≤ 9223372036854775807) (hkl : D.keep.length ≤ 140737488355328) :
    Ret Tryz.prog 42 [.pointer (some ⟨b, 0, none⟩), vc] w fun v w' => v = .int .i64 (((D.does c).2 : Nat) : Int) ∧ DevAt w' B b (D.does c).1 ∧ Tm w w' B dty := by
  obtain ⟨vk, vn, vp, vq, vs, h⟩ := h0
  exact (does_x h hD vc c hcn hcs hcalls hpl hat hkl).mono fun _ _ q => ⟨q.1, q.2.1, q.2.2.1⟩
end Go.Proofs.YtlpnoogcdnfllaaGreatDoor
