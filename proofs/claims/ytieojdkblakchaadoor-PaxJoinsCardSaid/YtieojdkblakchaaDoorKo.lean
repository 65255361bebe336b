/-
  The engine's laws for slices: read, owned, made, appended to; bytes and texts.
-/
import Derived.Test.YtieojdkblakchaaDoorKh
import Derived.Lib.SlBytesConst
namespace Go.Proofs.YtieojdkblakchaaDoor
open Go.RowKit
set_option linter.unusedSimpArgs false
set_option linter.unusedVariables false

/-- a slice value with address A reads as the cells xs, in a block below B -/
def Sl (w : World) (B : Nat) (A : Option Addr) (xs : List Value) : Prop :=
  xs = [] ∨ ∃ b o, A = some ⟨b, o, none⟩ ∧ b < B ∧ ∀ j u, xs[j]? = some u → w.cell? ⟨b, o + j, none⟩ = some u
/-- a list of numbers as cells -/
def ints (k : IntKind) (l : List Nat) : List Value := l.map fun (x : Nat) => Value.int k (x : Int)
def bytesV (l : List UInt8) : List Value := l.map fun c => Value.int .u8 (c.toNat : Int)
/-- a slice that the call made: n elements of s cells each -/
def Own (w : World) (B : Nat) (T : TypeId) (s : Nat) (v : Value) (n : Nat) (xs : List Value) : Prop :=
  xs.length = n * s ∧ ((v = .slice none 0 0 ∧ n = 0) ∨
    ∃ g cap rest, v = .slice (some ⟨g, 0, none⟩) n cap ∧ B ≤ g ∧ Bk w g T (xs ++ rest) ∧ xs.length + rest.length = cap * s ∧ n ≤ cap ∧ cap ≤ maxLen)
section
variable {w w' : World} {B B' : Nat} {A : Option Addr} {xs : List Value} {T : TypeId} {s n : Nat} {v : Value}
theorem Sl.empty : Sl w B A [] := .inl rfl
theorem Sl.at_ (h : Sl w B A xs) (hx : 0 < xs.length) : ∃ b o, A = some ⟨b, o, none⟩ ∧ b < B ∧ ∀ j u, xs[j]? = some u → w.cell? ⟨b, o + j, none⟩ = some u := by
  rcases h with h | h
  · subst h; simp at hx
  · exact h
theorem Sl.keep (h : Sl w B A xs) (hk : ∀ p : Addr, p.block < B → w'.cell? p = w.cell? p) : Sl w' B A xs := by
  rcases h with h | ⟨b, o, h1, h2, h3⟩
  · exact .inl h
  · exact .inr ⟨b, o, h1, h2, fun j u hu => (hk _ h2).trans (h3 j u hu)⟩
theorem Sl.more (h : Sl w B A xs) (hB : B ≤ B') : Sl w B' A xs := by
  rcases h with h | ⟨b, o, h1, h2, h3⟩
  · exact .inl h
  · exact .inr ⟨b, o, h1, by omega, h3⟩
theorem Sl.below (h : Sl w B A xs) (hb : Below B w w') : Sl w' B A xs := h.keep fun _ hp => hb.cell hp
theorem Sl.ext (h : Sl w B A xs) (hb : Ext w w') : Sl w' B A xs := by
  rcases h with h | ⟨b, o, h1, h2, h3⟩
  · exact .inl h
  · exact .inr ⟨b, o, h1, h2, fun j u hu => (hb.cell (p := ⟨b, o + j, none⟩) (block_lt_of_cell (h3 j u hu))).trans (h3 j u hu)⟩
theorem Sl.drewN (h : Sl w B A xs) (m : Nat) : Sl (w.drewN m) B A xs := h
theorem Sl.pre (h : Sl w B A xs) (m : Nat) : Sl w B A (xs.take m) := by
  rcases h with h | ⟨b, o, h1, h2, h3⟩
  · subst h; left; simp
  · exact .inr ⟨b, o, h1, h2, fun j u hu => h3 j u (by
      rw [List.getElem?_take] at hu
      split at hu
      · exact hu
      · cases hu)⟩
theorem Sl.of_bk {b : Nat} {l : List Value} (h : Bk w b T l) (hB : b < B) : Sl w B (some ⟨b, 0, none⟩) l := .inr ⟨b, 0, rfl, hB, fun j u hu => by rw [Nat.zero_add]; exact h.cell_of hu⟩
theorem Bk.sl {b : Nat} {l : List Value} (h : Bk w b T l) : Sl w w.heap.size (some ⟨b, 0, none⟩) l := Sl.of_bk h h.lt
theorem Bk.slp {b : Nat} {l r : List Value} (h : Bk w b T (l ++ r)) : Sl w w.heap.size (some ⟨b, 0, none⟩) l := by
  have := h.sl.pre l.length
  rwa [List.take_left] at this
theorem Own.nil (w : World) (B : Nat) (T : TypeId) (s : Nat) : Own w B T s (.slice none 0 0) 0 [] := ⟨by simp, .inl ⟨rfl, rfl⟩⟩
theorem Own.lt (h : Own w B T s v n xs) : ∀ k, v.ownBlock = some k → B ≤ k ∧ k < w.heap.size := by
  intro k hk
  rcases h.2 with ⟨rfl, _⟩ | ⟨g, cap, rest, rfl, hb, hg, _⟩
  · simp [Value.ownBlock] at hk
  · simp [Value.ownBlock] at hk
    subst hk
    exact ⟨hb, hg.lt⟩
theorem Own.of_blocks (h : Own w B T s v n xs) (hk : ∀ k, v.ownBlock = some k → w'.heap[k]? = w.heap[k]?) : Own w' B T s v n xs := by
  refine ⟨h.1, ?_⟩
  rcases h.2 with hn | ⟨g, cap, rest, rfl, hb, hg, r⟩
  · exact .inl hn
  · exact .inr ⟨g, cap, rest, rfl, hb, hg.of_block (hk g rfl), r⟩
theorem Own.ext (h : Own w B T s v n xs) (hx : Ext w w') : Own w' B T s v n xs := h.of_blocks fun k hk => hx.block k (h.lt k hk).2
theorem Own.grown {row : Option Nat} (h : Own w B T s v n xs) (hg : w.grownBy w' row) (hne : v.ownBlock = none ∨ v.ownBlock ≠ row) : Own w' B T s v n xs :=
  h.of_blocks fun k hk => hg.block k (h.lt k hk).2 (by rw [← hk]; rcases hne with e | e <;> simp_all)
theorem Own.alloc (h : Own w B T s v n xs) (o : Obj) : Own (w.alloc o) B T s v n xs := h.ext (Ext.alloc w o)
theorem Own.drewN (h : Own w B T s v n xs) (m : Nat) : Own (w.drewN m) B T s v n xs := h.ext (Ext.drewN w m)
theorem Own.far (h : Own w B T s v n xs) {p : Addr} (hp : v.ownBlock ≠ some p.block) (u : Value) : Own (w.setCell p u) B T s v n xs :=
  h.of_blocks fun k hk => Below.heap_setCell w p u k (fun e => hp (by rw [hk, e]))
theorem Own.more (h : Own w B T s v n xs) (hB : B' ≤ B) : Own w B' T s v n xs := by
  refine ⟨h.1, ?_⟩
  rcases h.2 with hn | ⟨g, cap, rest, rfl, hb, r⟩
  · exact .inl hn
  · exact .inr ⟨g, cap, rest, rfl, by omega, r⟩
theorem Own.slice (h : Own w B T s v n xs) : ∃ A c, v = .slice A n c ∧ n ≤ c ∧ Sl w w.heap.size A xs := by
  rcases h.2 with ⟨rfl, rfl⟩ | ⟨g, cap, rest, rfl, hb, hg, hl, hn, _⟩
  · exact ⟨none, 0, rfl, Nat.le_refl _, .inl (List.eq_nil_of_length_eq_zero (by simpa using h.1))⟩
  · refine ⟨_, cap, rfl, hn, .inr ⟨g, 0, rfl, hg.lt, fun j u hu => ?_⟩⟩
    rw [Nat.zero_add]
    refine hg.cell_of ?_
    rw [List.getElem?_append_left]
    · exact hu
    · rcases Nat.lt_or_ge j xs.length with h' | h'
      · exact h'
      · simp [List.getElem?_eq_none h'] at hu
/-- the slice's own block, where there is an element -/
theorem Own.blk (h : Own w B T s v n xs) (hx : 0 < xs.length) : ∃ g cap rest, v = .slice (some ⟨g, 0, none⟩) n cap ∧ B ≤ g ∧ Bk w g T (xs ++ rest) ∧ xs.length + rest.length = cap * s ∧ n ≤ cap ∧ cap ≤ maxLen := by
  rcases h.2 with ⟨rfl, rfl⟩ | h2
  · have := h.1; omega
  · exact h2
theorem Own.of_bk {g cap : Nat} {l : List Value} (hg : Bk w g T l) (hB : B ≤ g) (hl : l.length = cap * s) (hm : cap ≤ maxLen) : Own w B T s (.slice (some ⟨g, 0, none⟩) cap cap) cap l :=
  ⟨hl, .inr ⟨g, cap, [], rfl, hB, by simpa using hg, by simpa using hl, Nat.le_refl _, hm⟩⟩
/-- a cell of it is stored anew -/
theorem Own.set {g cap : Nat} (h : Own w B T s (.slice (some ⟨g, 0, none⟩) n cap) n xs) (i : Nat) (hi : i < xs.length) (u : Value) :
    Own (w.setCell ⟨g, i, none⟩ u) B T s (.slice (some ⟨g, 0, none⟩) n cap) n (xs.set i u) ∧ w.grownBy (w.setCell ⟨g, i, none⟩ u) (some g) := by
  obtain ⟨g', cap', rest, hv, hb, hg, hr⟩ := h.blk (by omega)
  simp only [Value.slice.injEq, Option.some.injEq, Addr.mk.injEq, and_true, true_and] at hv
  obtain ⟨rfl, rfl⟩ := hv
  refine ⟨⟨by simpa using h.1, .inr ⟨g, cap, rest, rfl, hb, ?_, by simpa using hr.1, hr.2⟩⟩, ⟨rfl, rfl, rfl, by simp, fun k _ hk => Below.heap_setCell w _ u k (fun e => hk (by rw [e]))⟩⟩
  have := hg.set i u
  rwa [List.set_append_left _ _ hi] at this
theorem grown_below {B : Nat} {a w w' : World} {row : Option Nat} (h : Below B a w) (hg : w.grownBy w' row) (hB : B ≤ w.heap.size) (hr : ∀ k, row = some k → B ≤ k) : Below B a w' := h.grown hg hB hr
end
section
variable {P : Program} {w : World}
theorem size_zeroCells' (z : Array Value) (n : Nat) : (Builtin.zeroCells z n).size = n * z.size := by simp [Builtin.zeroCells]
/-- append onto what the call owns -/
theorem run_append (B : Nat) (t tx ty e : TypeId) {z : Value} {s bs : Nat} (ht : P.underlying t = some (.slice e)) (hi : TI P e z s bs) (hzs : z.cells.size = s) (hs0 : 0 < s)
    {v : Value} {n : Nat} {xs : List Value} (hown : Own w B e s v n xs) {x : Value} {m : Nat} {news : List Value} (hsrc : Src P s tx x m news w)
    (h63 : n + m ≤ maxLen) (hbytes : (n + m) * bs ≤ 140737488355328) (hB : B ≤ w.heap.size) :
    ∃ v' w', (Builtin.append_ #[t, tx] ty #[v, x]).run P w = .ok v' w' ∧ Own w' B e s v' (n + m) (xs ++ news) ∧ w.grownBy w' v.ownBlock ∧ (v'.ownBlock = v.ownBlock ∨ v'.ownBlock = some w.heap.size) := by
  obtain ⟨i, hq, hz, rfl, rfl⟩ := hi.at
  have hlen : (xs ++ news).length = (n + m) * i.size := by rw [List.length_append, hown.1, hsrc.newsLen, Nat.add_mul]
  have grow : ∀ (A : Option Addr) (cap : Nat), v = .slice A n cap → cap < n + m → (Builtin.firstCells i.size n (.slice A n cap)).run P w.drew = .ok xs.toArray w.drew →
      ∃ v' w', (Builtin.append_ #[t, tx] ty #[v, x]).run P w = .ok v' w' ∧ Own w' B e i.size v' (n + m) (xs ++ news) ∧ w.grownBy w' v.ownBlock ∧ (v'.ownBlock = v.ownBlock ∨ v'.ownBlock = some w.heap.size) := by
    intro A cap hv hc hold
    subst hv
    have hr := run_append_grow_src (P := P) w t tx ty e i z ht hq hz A n cap xs hold x m news hsrc hc (by simp only [maxLen] at h63; omega) (growslice_fits (by omega) hbytes)
    have hge := grownCap_ge w (n + m) cap e
    have hcm : grownCap w (n + m) cap e ≤ maxLen := grownCap_le_maxLen w (n + m) cap e h63
    refine ⟨_, _, hr, ⟨hlen, .inr ⟨w.heap.size, _, (Builtin.zeroCells z.cells (grownCap w (n + m) cap e - (n + m))).toList, rfl, hB, ?_, ?_, hge, hcm⟩⟩, ⟨rfl, rfl, rfl, by simp, fun k hk _ => Below.heap_alloc w.drew _ k hk⟩, .inr rfl⟩
    · have := Bk.new w.drew e ((xs ++ news) ++ (Builtin.zeroCells z.cells (grownCap w (n + m) cap e - (n + m))).toList)
      rw [show ((xs ++ news) ++ (Builtin.zeroCells z.cells (grownCap w (n + m) cap e - (n + m))).toList).toArray = (xs ++ news).toArray ++ Builtin.zeroCells z.cells (grownCap w (n + m) cap e - (n + m)) by simp] at this
      exact this
    · rw [hlen, Array.length_toList, size_zeroCells', hzs, ← Nat.add_mul]
      congr 1
      omega
  rcases hown.2 with ⟨rfl, rfl⟩ | ⟨g, cap, rest, rfl, hb, hg, hl, hn, hcm⟩
  · have hx : xs = [] := List.eq_nil_of_length_eq_zero (by simpa using hown.1)
    subst hx
    by_cases hm : m = 0
    · subst hm
      have hn : news = [] := List.eq_nil_of_length_eq_zero (by simpa using hsrc.newsLen)
      subst hn
      refine ⟨.slice none 0 0, w, ?_, Own.nil _ _ _ _, ⟨rfl, rfl, rfl, Nat.le_refl _, fun _ _ _ => rfl⟩, .inl rfl⟩
      have hc := hsrc.cells
      rcases hsrc.kind with ⟨e', hk⟩ | hk <;> simp [Builtin.append_, run_underlying ht, run_underlying hk, sizeOf, typeInfo, hq, hsrc.len, hc]
    · exact grow none 0 rfl (by omega) (by simp [Builtin.firstCells])
  · by_cases hroom : n + m ≤ cap
    · have hfit : n * i.size + news.length ≤ (xs ++ rest).length := by
        rw [List.length_append, hl, hsrc.newsLen, ← Nat.add_mul]
        exact Nat.mul_le_mul_right _ hroom
      obtain ⟨w', hst, hb', hg'⟩ := run_storeCells_bk P w g (n * i.size) e news 0 (xs ++ rest) w hg (by simpa using hfit) hsrc.one
      refine ⟨.slice (some ⟨g, 0, none⟩) (n + m) cap, w', ?_, ⟨hlen, .inr ⟨g, cap, rest.drop news.length, rfl, hb, ?_, ?_, hroom, hcm⟩⟩, by simpa [Value.ownBlock] using hg', .inl rfl⟩
      · rcases hsrc.kind with ⟨e', hk⟩ | hk <;> simp [Builtin.append_, run_underlying ht, run_underlying hk, sizeOf, typeInfo, hq, hsrc.len, hroom, hsrc.cells, Addr.add_lit, hst]
      · have e1 : (xs ++ rest).take (n * i.size) = xs := by rw [← hown.1]; exact List.take_left
        have e2 : (xs ++ rest).drop (n * i.size + news.length) = rest.drop news.length := by
          rw [← hown.1, ← List.drop_drop, List.drop_left]
        simp only [Nat.add_zero] at hb'
        rw [e1, e2] at hb'
        exact hb'
      · rw [List.length_drop, hlen]
        have h1 : (xs.length + rest.length) = cap * i.size := hl
        rw [hown.1] at h1
        have h2 : (n + m) * i.size ≤ cap * i.size := Nat.mul_le_mul_right _ hroom
        have h3 := hsrc.newsLen
        rw [Nat.add_mul] at h2 ⊢
        omega
    · refine grow _ cap rfl (by omega) ?_
      have : (loadCells ⟨g, 0, none⟩ (n * i.size)).run P w.drew = .ok xs.toArray w.drew := by
        have := run_loadCells_list (P := P) w.drew ⟨g, 0, none⟩ xs (fun j u hj => by
          have hadd : (⟨g, 0, none⟩ : Addr).add j = ⟨g, j, none⟩ := by unfold Addr.add; split <;> simp_all
          rw [hadd]
          refine (hg.drew).cell_of ?_
          rw [List.getElem?_append_left]
          · exact hj
          · rcases Nat.lt_or_ge j xs.length with h' | h'
            · exact h'
            · simp [List.getElem?_eq_none h'] at hj)
        rwa [hown.1] at this
      simpa [Builtin.firstCells] using this
theorem Src.of_sl {tx e' : TypeId} {s : Nat} (hk : P.underlying tx = some (.slice e')) {B : Nat} {A : Option Addr} {m c : Nat} {news : List Value} (h : Sl w B A news) (hl : news.length = m * s) (h1 : ∀ u ∈ news, u.oneCell' = true) (hs0 : 0 < s) : Src P s tx (.slice A m c) m news w := by
  have cells : ∀ w1 : World, (∀ a, w1.cell? a = w.cell? a) → (Builtin.firstCells s m (.slice A m c)).run P w1 = .ok news.toArray w1 := by
    intro w1 hw1
    rcases h with h | ⟨b, o, rfl, _, hc⟩
    · subst h
      have hm : m * s = 0 := by simpa using hl.symm
      cases A with
      | none => simp [Builtin.firstCells]
      | some a => simp [Builtin.firstCells, hm, loadCells, loadCellsFrom]
    · have := run_loadCells_list (P := P) w1 ⟨b, o, none⟩ news (fun j u hj => by
        have hadd : (⟨b, o, none⟩ : Addr).add j = ⟨b, o + j, none⟩ := by unfold Addr.add; split <;> simp_all
        rw [hadd, hw1]
        exact hc j u hj)
      rw [hl] at this
      simpa [Builtin.firstCells] using this
  exact ⟨.inl ⟨e', hk⟩, fun _ => rfl, cells w fun _ => rfl, cells w.drew fun _ => rfl, hl, h1⟩
theorem Src.of_str {tx : TypeId} (hk : P.underlying tx = some .string) (l : List UInt8) : Src P 1 tx (str l) l.length (bytesV l) w := Src.ofString w hk ⟨⟨l⟩⟩
theorem ints_one {k : IntKind} {l : List Nat} : ∀ u ∈ ints k l, u.oneCell' = true := by
  intro u hu
  obtain ⟨_, _, rfl⟩ := List.mem_map.1 hu
  rfl
theorem bytesV_one {l : List UInt8} : ∀ u ∈ bytesV l, u.oneCell' = true := by
  intro u hu
  obtain ⟨_, _, rfl⟩ := List.mem_map.1 hu
  rfl
theorem bytesV_length (l : List UInt8) : (bytesV l).length = l.length := by simp [bytesV]
theorem ints_length (k : IntKind) (l : List Nat) : (ints k l).length = l.length := by simp [ints]
theorem ints_append (k : IntKind) (l m : List Nat) : ints k (l ++ m) = ints k l ++ ints k m := by simp [ints]
theorem bytesV_append (l m : List UInt8) : bytesV (l ++ m) = bytesV l ++ bytesV m := by simp [bytesV]
end
section
variable {P : Program} {R : Act → World → Prop} {ops : Array Oper} {rest : List Oper} {k : List KI} {n : Nat} {σ : Sig} {w : World} {x y : Operand} {t t' e ty : TypeId} {pos : String} {after : Array Edge} {gd : Option (Nat × Bool)} {d : Nat}
/-- append, as a step -/
theorem OW.append (B : Nat) {z : Value} {s bs : Nat} (hg : wantS ops σ gd = some true) (hd : Nat.blt d n = true) (ht : P.underlying t = some (.slice e)) (hi : TI P e z s bs) (hzs : z.cells.size = s) (hs0 : 0 < s)
    {v xv : Value} {m l : Nat} {xs news : List Value} (hx : ev σ x = some v) (hy : ev σ y = some xv) (hown : Own w B e s v l xs) (hsrc : Src P s t' xv m news w)
    (h63 : l + m ≤ maxLen) (hbytes : (l + m) * bs ≤ 140737488355328) (hB : B ≤ w.heap.size)
    (h : ∀ v' w', Own w' B e s v' (l + m) (xs ++ news) → w.grownBy w' v.ownBlock → (v'.ownBlock = v.ownBlock ∨ v'.ownBlock = some w.heap.size) → OW P R ops rest k n ((d, v') :: σ) w') :
    OW P R ops (⟨some d, .call { callee := .builtin .append, args := #[x, y], argTypes := #[t, t'] }, ty, pos, after, gd⟩ :: rest) k n σ w := by
  obtain ⟨v', w', hr, h2, h3, h4⟩ := run_append (P := P) B t t' ty e ht hi hzs hs0 hown hsrc h63 hbytes hB
  refine OW.val hg hd (v := v') (w' := w') ?_ (h v' w' h2 h3 h4)
  intro A ha dst pos after g
  simp only [execOp, resolve, invoke, builtin, Sem.run_bind, Sem.run_pure, Result.andThen_ok, List.map_toArray, List.map_cons, List.map_nil, ha.ev hx, ha.ev hy, hr]
/-- a slice written out, of one cell a part -/
theorem fill_one : ∀ (vs : List Value) (i : Nat) (pre post : List Value), pre.length = i → (∀ v ∈ vs, v.oneCell' = true) → post.length = vs.length →
    Instr.fill (fun i => some (i * 1, 1)) (pre ++ post).toArray ((vs.zipIdx i).map fun (v, j) => (j, v)) = some (pre ++ vs).toArray
  | [], i, pre, post, hp, _, hl => by
    have : post = [] := List.eq_nil_of_length_eq_zero (by simpa using hl)
    subst this
    simp [Instr.fill]
  | v :: vs, i, pre, post, hp, h1, hl => by
    cases post with
    | nil => simp at hl
    | cons p post =>
      have hc := oneCell_cells (h1 v (by simp))
      have ih := fill_one vs (i + 1) (pre ++ [v]) post (by simp [hp]) (fun u hu => h1 u (by simp [hu])) (by simpa using hl)
      have hset : (pre ++ p :: post).toArray.setIfInBounds (i + 0) v = ((pre ++ [v]) ++ post).toArray := by
        simp [← hp]
      simp only [List.zipIdx_cons, List.map_cons, Instr.fill, hc, List.size_toArray, List.length_cons, List.length_nil, Nat.mul_one]
      have hn : ¬ (0 + 1 ≠ 1 ∨ i + (0 + 1) > (pre ++ p :: post).length) := by simp [hp]
      simp only [ne_eq, Bool.or_eq_true, decide_eq_true_eq]
      rw [if_neg (by simpa using hn)]
      have hz : (#[v] : Array Value).zipIdx.foldl (fun cs (x : Value × Nat) => cs.setIfInBounds (i + x.2) x.1) (pre ++ p :: post).toArray = ((pre ++ [v]) ++ post).toArray := by
        rw [← hset]; rfl
      rw [hz]
      simpa using ih
theorem run_buildSlice {z : Value} {bs : Nat} {pv : Array (Nat × Value)} {vs : List Value} (len : Nat) (ht : P.underlying t = some (.slice e)) (hi : TI P e z 1 bs) (hz1 : z.oneCell' = true)
    (hpv : pv.toList = vs.zipIdx.map fun (v, j) => (j, v)) (hl : vs.length = len) (h1 : ∀ v ∈ vs, v.oneCell' = true) (hlen : len ≤ 16777216) :
    (Instr.buildSlice t len pv).run P w = .ok (.slice (some ⟨w.heap.size, 0, none⟩) len len) (w.alloc (.cells vs.toArray e)) := by
  have hf := fill_one vs 0 [] (List.replicate len z) rfl h1 (by simp [hl])
  simp only [List.nil_append] at hf
  have hzc := oneCell_cells hz1
  have hrep : ((Array.range (len * 1)).map fun j => #[z][j % (#[z] : Array Value).size]!) = (List.replicate len z).toArray := by
    apply Array.ext'
    apply List.ext_getElem?
    intro j
    by_cases hj : j < len
    · simp [hj, Nat.mod_one]
    · simp [hj]
  have hn : ¬ (len * 1 > 2 ^ 24) := by omega
  simp only [Instr.buildSlice, Sem.run_bind, run_underlying ht, run_sizeOf hi, Result.andThen_ok, if_neg hn, hpv, Sem.run_pure]
  by_cases h0 : len * 1 = 0
  · have h0' : len = 0 := by omega
    subst h0'
    have : vs = [] := List.eq_nil_of_length_eq_zero hl
    subst this
    simp [Instr.fill, newRow, newObj, Sem.run_bind, Sem.run, Array.range_zero']
  · rw [if_neg h0]
    simp only [Sem.run_bind, run_zeroValue hi, Result.andThen_ok, Sem.run_pure, hzc, hrep, hf]
    simp [newRow, newObj, Sem.run_bind, Sem.run]
theorem EX.buildSlice {z : Value} {bs : Nat} {parts : Array (Nat × Operand)} {vs : List Value} (len : Nat) (ht : P.underlying t = some (.slice e)) (hi : TI P e z 1 bs) (hz1 : z.oneCell' = true)
    (hv : evs σ (parts.toList.map (·.2)) = some vs) (hp : parts.toList.map (·.1) = List.range' 0 parts.toList.length) (hl : vs.length = len) (h1 : vs.all (·.oneCell') = true) (hlen : len ≤ 16777216) :
    EX P n σ (.buildSlice t len parts) ty w (.slice (some ⟨w.heap.size, 0, none⟩) len len) (w.alloc (.cells vs.toArray e)) := fun A ha dst pos after g => by
  have hpv : (parts.map fun (p : Nat × Operand) => (p.1, A.eval p.2)).toList = vs.zipIdx.map fun (v, j) => (j, v) := by
    have h2 := ha.evs hv
    apply List.ext_getElem?
    intro j
    have e1 := congrArg (·[j]?) h2
    have e2 := congrArg (·[j]?) hp
    simp only [List.getElem?_map] at e1 e2
    simp only [Array.toList_map, List.getElem?_map, List.getElem?_zipIdx]
    cases hq : parts.toList[j]? with
    | none => simp [hq] at e1; simp [List.getElem?_eq_none e1]
    | some p =>
      have hlt : j < parts.toList.length := (List.getElem?_eq_some_iff.1 hq).1
      simp [hq] at e1
      rw [hq, List.getElem?_range' hlt] at e2
      simp at e2
      simp [← e1, e2]
  have := run_buildSlice (P := P) (w := w) len ht hi hz1 hpv hl (fun v hv => List.all_eq_true.1 h1 v hv) hlen
  simp only [execOp, Sem.run_bind]
  rw [show (parts.map fun (x : Nat × Operand) => match x with | (i, x) => (i, A.eval x)) = parts.map fun (p : Nat × Operand) => (p.1, A.eval p.2) from rfl, this]
  rfl
/-- make of one-cell elements -/
theorem EX.makeSlice {z : Value} {bs len : Nat} {kl kc : IntKind} (ht : P.underlying t = some (.slice e)) (hi : TI P e z 1 bs) (hz1 : z.oneCell' = true) (hx : ev σ x = some (.int kl (len : Int))) (hy : ev σ y = some (.int kc (len : Int)))
    (hb : bs * len ≤ 281474976710656) (h63 : len ≤ 9223372036854775807) :
    EX P n σ (.makeSlice t x y) ty w (.slice (some ⟨w.heap.size, 0, none⟩) len len) (w.alloc (.cells (List.replicate len z).toArray e)) := fun A ha dst pos after g => by
  obtain ⟨i, hq, hz, hs, rfl⟩ := hi.at
  have hb' : (i.bytes : Int) * (len : Int) ≤ 281474976710656 := by
    have h : ((i.bytes * len : Nat) : Int) ≤ 281474976710656 := by omega
    rwa [Int.natCast_mul] at h
  have hr := run_make (P := P) w t e i z ht hq hz kl kc len len (by omega) (Int.le_refl _) hb' (by omega)
  simp only [Int.toNat_natCast, hs, Nat.mul_one, oneCell_cells hz1] at hr
  have hl : madeCells #[z] len = (List.replicate len z).toArray := by
    apply Array.ext'
    rw [toList_madeCells_one]
  rw [hl] at hr
  simp only [execOp, ha.ev hx, ha.ev hy, Sem.run_bind, hr]
  rfl
/-- a text's bytes, in new memory -/
theorem EX.bytesOf {s : List UInt8} (ht : P.underlying t = some .string) (ht' : P.underlying t' = some (.slice e)) (he : P.underlying e = some (.int .u8)) (hx : ev σ x = some (str s)) (hs : s.length ≤ 9223372036854775807) :
    ∃ v w', EX P n σ (.convert t t' x) ty w v w' ∧ Own w' w.heap.size e 1 v s.length (bytesV s) ∧ v.ownBlock = some w.heap.size ∧ Ext w w' := by
  let cap := Question.cut (.appendCap s.length 0 e) (w.tape w.drawn (.appendCap s.length 0 e))
  have hge : s.length ≤ cap := by simp [cap, Question.cut]
  have hle : cap ≤ maxLen := by
    have hlt := Nat.mod_lt (w.tape w.drawn (.appendCap s.length 0 e)) (show 0 < 2 ^ 63 - s.length by omega)
    simp only [cap, Question.cut, maxLen]
    omega
  let l := bytesV s ++ List.replicate (cap - s.length) (Value.int .u8 0)
  have hll : l.length = cap := by simp [l, bytesV]; omega
  let w1 := w.drew.alloc (.cells l.toArray e)
  let w2 := w1.freeze ⟨w.heap.size, cap, none⟩ 1
  have hrow : (s.toArray.map fun b => Value.int .u8 (b.toNat : Int)) ++ Array.replicate (cap - s.length) (Value.int .u8 0) = l.toArray := by
    apply Array.ext'
    simp [l, bytesV]
  have hb1 : w1.heap[w.heap.size]? = some (.cells l.toArray e (0, 0)) := heap_alloc_new w.drew _
  have hsh : w1.shape? w.heap.size = some (e, cap) := by simp [World.shape?, hb1, hll]
  have hb2 : w2.heap[w.heap.size]? = some (.cells l.toArray e (cap, cap + 1)) := by
    simp only [w2, World.freeze]
    simp [Array.getElem?_modify, hb1]
  have hrun : (Conv.stringToBytes e ⟨⟨s⟩⟩).run P w = .ok (.slice (some ⟨w.heap.size, 0, none⟩) s.length cap) w2 := by
    have hsz : ByteArray.size ⟨⟨s⟩⟩ = s.length := rfl
    have hf : Question.forced (.appendCap s.length 0 e) = false := rfl
    have e2 : (({ w with drawn := w.drawn + 1 } : World).heap.push (.cells l.toArray e)) = w1.heap := rfl
    simp only [Conv.stringToBytes, hsz, Sem.run_bind, choose, Sem.run, hf, Bool.false_eq_true, if_false, Result.andThen_ok, newRow, newObj, Sem.run_pure]
    rw [show ((⟨⟨s⟩⟩ : ByteArray).data.map fun b => Value.int .u8 (b.toNat : Int)) = s.toArray.map fun b => Value.int .u8 (b.toNat : Int) from rfl, hrow]
    have hsh' : World.shape? { w with drawn := w.drawn + 1, heap := w.heap.push (.cells l.toArray e) } w.heap.size = some (e, cap) := hsh
    simp only [markStringish, shape, Sem.run_bind, Sem.run, hsh', Result.andThen_ok, freeze]
    rfl
  refine ⟨.slice (some ⟨w.heap.size, 0, none⟩) s.length cap, w2, fun A ha dst pos after g => ?_, ⟨by simp [bytesV], .inr ⟨w.heap.size, cap, _, rfl, Nat.le_refl _, ⟨(cap, cap + 1), hb2, .inl (by show l.length ≤ cap; omega)⟩, by simpa [l] using hll, hge, hle⟩⟩, rfl, ⟨rfl, rfl, rfl, ?_, fun k hk => ?_⟩⟩
  · simp only [execOp, ha.ev hx, convert, run_underlying ht, run_underlying ht', run_underlying he, Sem.run_bind, Result.andThen_ok, hrun]
    rfl
  · simp [w2, w1, World.freeze]
  · have : w2.heap[k]? = w1.heap[k]? := by
      simp only [w2, World.freeze]
      simp [Array.getElem?_modify, Nat.ne_of_gt hk]
    rw [this]
    exact Below.heap_alloc w.drew _ k hk
theorem strOf_bytes (s : List UInt8) : strOfNums (s.map fun c => (c.toNat : Int)) = ⟨⟨s⟩⟩ := by
  have h : s.map ((fun n : Int => UInt8.ofNat n.toNat) ∘ fun c : UInt8 => (c.toNat : Int)) = s := by
    have h2 : ∀ c ∈ s, ((fun n : Int => UInt8.ofNat n.toNat) ∘ fun c : UInt8 => (c.toNat : Int)) c = id c := fun c _ => by simp
    rw [List.map_congr_left h2, List.map_id]
  simp [strOfNums, h]
/-- bytes as a text -/
theorem EX.strOf {B : Nat} {A : Option Addr} {len cap : Nat} {s : List UInt8} (ht : P.underlying t = some (.slice e)) (he : P.underlying e = some (.int .u8)) (ht' : P.underlying t' = some .string) (hx : ev σ x = some (.slice A len cap)) (h : Sl w B A (bytesV s)) (hl : s.length = len) :
    EX P n σ (.convert t t' x) ty w (str s) w := fun Ac ha dst pos after g => by
  have hr : (convert t t' (.slice A len cap)).run P w = .ok (str s) w := by
    rcases h with h | ⟨b, o, rfl, _, hc⟩
    · have hs0 : s = [] := by
        have := congrArg List.length h
        simp [bytesV] at this
        exact this
      subst hs0
      simp only [List.length_nil] at hl
      subst hl
      cases A with
      | none => exact run_convert_bytes_nil (P := P) w t e ht he 0 cap t' ht'
      | some a =>
        obtain ⟨b, o, sp⟩ := a
        rw [run_convert_bytes_string w t t' e _ 0 cap ht he ht', run_bytesToString w _ 0 cap [] (by simp [loadCells, loadCellsFrom])]
        rfl
    · have := run_convert_bytes_arg (P := P) w t e ht he b o len cap (s.map fun c => (c.toNat : Int)) (by simpa using hl) (fun i hi => by
        have hi' : i < s.length := by omega
        have := hc i (.int .u8 (s[i].toNat : Int)) (by simp [bytesV, hi'])
        rw [this]
        simp [List.getD, hi']) t' ht'
      rw [strOf_bytes] at this
      exact this
  simp only [execOp, ha.ev hx, Sem.run_bind, hr]
  rfl
end
end Go.Proofs.YtieojdkblakchaaDoor
