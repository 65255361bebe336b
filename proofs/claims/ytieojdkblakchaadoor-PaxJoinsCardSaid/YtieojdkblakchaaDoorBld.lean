/-
  strings.Builder: texts are written one behind the other, and told as one.
-/
import Derived.Test.YtieojdkblakchaaDoorKb
import Derived.Test.YtieojdkblakchaaDoorTi
namespace Go.Proofs.YtieojdkblakchaaDoor
open Go.RowKit
set_option linter.unusedVariables false
set_option linter.unusedSimpArgs false

/-- a builder that a call made -/
def Bd (w : World) (B b : Nat) (l : List UInt8) : Prop :=
  B ≤ b ∧ ∃ p v, (p = .pointer none ∨ p = .pointer (some ⟨b, 0, none⟩)) ∧ Bk w b 44 [p, v] ∧ (l = [] → v = .slice none 0 0) ∧ Own w B 5 1 v l.length (bytesV l)
theorem Bd.new {w : World} {B b : Nat} (hB : B ≤ b) (h : Bk w b 44 [.pointer none, .slice none 0 0]) : Bd w B b [] := ⟨hB, _, _, .inl rfl, h, fun _ => rfl, Own.nil _ _ _ _⟩
theorem Bd.ext {w w' : World} {B b : Nat} {l : List UInt8} (h : Bd w B b l) (hx : Ext w w') : Bd w' B b l := by
  obtain ⟨h1, p, v, h2, h3, h4, h5⟩ := h
  exact ⟨h1, p, v, h2, h3.ext hx, h4, h5.ext hx⟩
theorem copyCheck_b (b : Nat) (p v : Value) (w : World) (hp : p = .pointer none ∨ p = .pointer (some ⟨b, 0, none⟩)) (hb : Bk w b 44 [p, v]) :
    Ret Tryd.prog 23 [.pointer (some ⟨b, 0, none⟩)] w fun r w' => r = .tuple #[] ∧ Bk w' b 44 [.pointer (some ⟨b, 0, none⟩), v] ∧ Mo w w' [b] := by
  refine Ret.enter Tryd.func23 rfl Tryd.ntmps23 (by kernel_rfl) rfl ?_
  refine KW.seq (KW.region ?_)
  refine OW.val rfl rfl (EX.move rfl) ?_
  refine OW.val rfl rfl (EX.nilCheck rfl) ?_
  refine OW.val rfl rfl (EX.fieldAddr (off := 0) Tryd.underlying44 rfl rfl ti41 rfl rfl) ?_
  refine OW.val rfl rfl (EX.load Tryd.underlying41 rfl rfl (hb.cell_of rfl)) ?_
  rcases hp with rfl | rfl
  · refine OW.val rfl rfl (EX.eqlP0 Tryd.underlying41 rfl rfl) ?_
    refine OW.nil ?_
    refine KW.condT rfl (KW.region ?_)
    refine OW.val rfl rfl (EX.move rfl) ?_
    refine OW.val rfl rfl (EX.move rfl) ?_
    refine OW.val rfl rfl (EX.toUnsafe (s := 1) Tryd.underlying41 Tryd.underlying57 (by kernel_rfl) hb.shape (Nat.zero_lt_succ _) rfl) ?_
    refine OW.val rfl rfl (EX.extern Tryd.func27 (by kernel_rfl) (by kernel_rfl) (by kernel_rfl) (E := Extern.AbiNoEscape.same) (by kernel_rfl) rfl (Lib.run_noEscape _ _)) ?_
    refine OW.val rfl rfl (EX.fromUnsafe (z := 2) Tryd.underlying57 Tryd.underlying41 (by kernel_rfl) hb.shape (by kernel_rfl) rfl) ?_
    refine OW.val rfl rfl (EX.nilCheck rfl) ?_
    refine OW.val rfl rfl (EX.fieldAddr (off := 0) Tryd.underlying44 rfl rfl ti41 rfl rfl) ?_
    refine OW.storeB rfl ti41 rfl rfl (by first | rfl | assumption | exact Own.one (by assumption)) (hb) (by simp) ?_
    rintro w2 hb2 hm2
    refine OW.nil ?_
    refine KW.done (ret0 rfl ?_)
    exact ⟨rfl, hb2, hm2⟩
  · refine OW.val rfl rfl (EX.eqlP1 Tryd.underlying41 rfl rfl) ?_
    refine OW.nil ?_
    refine KW.condF rfl (KW.seq (KW.region ?_))
    refine OW.val rfl rfl (EX.move rfl) ?_
    refine OW.val rfl rfl (EX.nilCheck rfl) ?_
    refine OW.val rfl rfl (EX.fieldAddr (off := 0) Tryd.underlying44 rfl rfl ti41 rfl rfl) ?_
    refine OW.val rfl rfl (EX.load Tryd.underlying41 rfl rfl (hb.cell_of rfl)) ?_
    refine OW.val rfl rfl (EX.move rfl) ?_
    refine OW.val rfl rfl (EX.neqSame (z := 2) Tryd.underlying41 (by kernel_rfl) rfl rfl) ?_
    refine OW.nil ?_
    refine KW.condF rfl (KW.skip ?_)
    refine KW.done (ret0 rfl ?_)
    exact ⟨rfl, hb, Mo.refl _ _⟩
/-- the types of what a builder's call changes -/
def bty (T : TypeId) : Bool := T == 44 || T == 5
theorem writeString_t (B b : Nat) (l s : List UInt8) (w : World) (h : Bd w B b l) (hs : s ≠ []) (hlen : l.length + s.length ≤ 140737488355328) (hB : B ≤ w.heap.size) :
    Ret Tryd.prog 17 [.pointer (some ⟨b, 0, none⟩), str s] w fun r w' => (∃ q, r = q) ∧ Bd w' B b (l ++ s) ∧ Below B w w' ∧ Tm w w' B bty := by
  obtain ⟨hBb, p, v, hp, hb, hn, hown⟩ := h
  have hlb : (bytesV l).length = l.length := by simp [bytesV]
  refine Ret.enter Tryd.func17 rfl Tryd.ntmps17 (by kernel_rfl) rfl ?_
  refine KW.seq (KW.region ?_)
  refine OW.val rfl rfl (EX.assign rfl) ?_
  refine OW.val rfl rfl (EX.assign rfl) ?_
  refine OW.nil ?_
  refine KW.seq (KW.region ?_)
  refine OW.val rfl rfl (EX.move rfl) ?_
  refine OW.call rfl rfl rfl (copyCheck_b b p v w hp hb) ?_
  rintro _ w1 ⟨rfl, hb1, hm1⟩
  refine OW.nil ?_
  refine KW.seq (KW.region ?_)
  refine OW.val rfl rfl (EX.move rfl) ?_
  refine OW.val rfl rfl (EX.move rfl) ?_
  refine OW.val rfl rfl (EX.nilCheck rfl) ?_
  refine OW.val rfl rfl (EX.fieldAddr (off := 1) Tryd.underlying44 rfl rfl ti42 rfl rfl) ?_
  have hown1 := hown.mo hm1 (fun k hk => by simp; exact fun z => hown.ne hb (by decide) k hk z.symm)
  have b1 : Below B w w1 := below_mo (Below.refl B w) hm1 hB (fun k hk => by simp at hk; omega)
  have hB1 : B ≤ w1.heap.size := Nat.le_trans hB b1.size
  refine OW.val rfl rfl (EX.load Tryd.underlying42 rfl rfl (hb1.cell_of rfl)) ?_
  refine OW.val rfl rfl (EX.move rfl) ?_
  refine OW.append B rfl rfl Tryd.underlying42 ti5 rfl (by decide) rfl rfl hown1 (Src.of_str Tryd.underlying9 s) (by simp only [maxLen]; omega) (by omega) hB1 ?_
  rintro v2 w2 hown2 hg2 hv2
  refine OW.val rfl rfl (EX.nilCheck rfl) ?_
  refine OW.val rfl rfl (EX.fieldAddr (off := 1) Tryd.underlying44 rfl rfl ti42 rfl rfl) ?_
  have hb2 := hb1.grown hg2 (fun z => hown1.ne hb1 (by decide) b z.symm rfl)
  have b2 : Below B w w2 := below_mo b1 (Mo.grown hg2 (S := v.ownBlock.toList) (fun k e => by rw [e]; simp)) hB1 (fun k hk => (hown1.lt k (Option.mem_toList.1 hk)).1)
  have hB2 : B ≤ w2.heap.size := Nat.le_trans hB b2.size
  refine OW.storeB rfl ti42 rfl rfl (by first | rfl | assumption | exact Own.one (by assumption)) (hb2) (by simp) ?_
  rintro w3 hb3 hm3
  refine OW.nil ?_
  refine KW.seq (KW.region ?_)
  refine OW.val rfl rfl (EX.move rfl) ?_
  refine OW.val rfl rfl (EX.lenS Tryd.underlying9 rfl) ?_
  refine OW.val rfl rfl (EX.assign rfl) ?_
  refine OW.val rfl rfl (EX.assign rfl) ?_
  refine OW.nil ?_
  have b3 : Below B w w3 := below_mo b2 hm3 hB2 (fun k hk => by simp at hk; omega)
  have hown3 := hown2.mo hm3 (fun k hk => by simp; exact fun z => hown2.ne hb2 (by decide) k hk z.symm)
  have tm1 : Tm w w1 B bty := (Tm.set hb hm1 hBb).mono fun T hT => by simp at hT; simp [bty, hT]
  have tm2 : Tm w1 w2 B bty := (Tm.grown hown1 hg2).mono fun T hT => by simp at hT; simp [bty, hT]
  have tm3 : Tm w2 w3 B bty := (Tm.set hb2 hm3 hBb).mono fun T hT => by simp at hT; simp [bty, hT]
  refine KW.ret (ret2 rfl rfl rfl ?_)
  refine ⟨⟨_, rfl⟩, ⟨hBb, _, v2, .inr rfl, hb3, fun q => absurd q (by simp [hs]), ?_⟩, b3, (tm1.trans tm2).trans tm3⟩
  rw [List.length_append]
  have e : bytesV (l ++ s) = bytesV l ++ bytesV s := by simp [bytesV]
  rw [e]
  exact hown3
theorem writeString_b (B b : Nat) (l s : List UInt8) (w : World) (h : Bd w B b l) (hs : s ≠ []) (hlen : l.length + s.length ≤ 140737488355328) (hB : B ≤ w.heap.size) :
    Ret Tryd.prog 17 [.pointer (some ⟨b, 0, none⟩), str s] w fun r w' => (∃ q, r = q) ∧ Bd w' B b (l ++ s) ∧ Below B w w' :=
  (writeString_t B b l s w h hs hlen hB).mono fun _ _ h => ⟨h.1, h.2.1, h.2.2.1⟩
theorem bstring_b (B b : Nat) (l : List UInt8) (w : World) (h : Bd w B b l) (hlen : l.length ≤ 140737488355328) (hB : B ≤ w.heap.size) :
    Ret Tryd.prog 18 [.pointer (some ⟨b, 0, none⟩)] w fun r w' => r = str l ∧ Below B w w' := by
  obtain ⟨hBb, p, v, hp, hb, hn, hown⟩ := h
  refine Ret.enter Tryd.func18 rfl Tryd.ntmps18 (by kernel_rfl) rfl ?_
  refine KW.seq (KW.region ?_)
  refine OW.val rfl rfl (EX.assign rfl) ?_
  refine OW.nil ?_
  refine KW.seq ?_
  rcases Decidable.em (l = []) with hl | hl
  · obtain rfl := hn hl
    subst hl
    refine KW.regionQ (by kernel_rfl) (by kernel_rfl) ?_
    refine QW.val rfl rfl (fun _ => EX.move rfl) ?_
    refine QW.val rfl rfl (fun _ => EX.nilCheck rfl) ?_
    refine QW.val rfl rfl (fun _ => EX.fieldAddr (off := 1) Tryd.underlying44 rfl rfl ti42 rfl rfl) ?_
    refine QW.val rfl rfl (fun _ => EX.load Tryd.underlying42 rfl rfl (hb.cell_of rfl)) ?_
    refine QW.val rfl rfl (fun _ => EX.sliceDataN rfl) ?_
    refine QW.val rfl rfl (fun _ => EX.move rfl) ?_
    refine QW.val rfl rfl (fun _ => EX.nilCheck rfl) ?_
    refine QW.val rfl rfl (fun _ => EX.fieldAddr (off := 1) Tryd.underlying44 rfl rfl ti42 rfl rfl) ?_
    refine QW.val rfl rfl (fun _ => EX.load Tryd.underlying42 rfl rfl (hb.cell_of rfl)) ?_
    refine QW.val rfl rfl (fun _ => EX.lenA Tryd.underlying42 rfl) ?_
    refine QW.val rfl rfl (fun _ => EX.unsafeStrN rfl rfl) ?_
    refine QW.val rfl rfl (fun _ => EX.assign rfl) ?_
    refine QW.nil (fun nq => ?_)
    refine KW.ret (ret1 rfl rfl ?_)
    exact ⟨rfl, below_drewN (Below.refl B w) nq⟩
  · have hne : l.length ≠ 0 := fun z => hl (List.eq_nil_of_length_eq_zero z)
    rcases hown.2 with ⟨_, hz⟩ | ⟨g, cap, rest, rfl, hg, hbg, hlen2, hc1, hc2⟩
    · exact absurd hz hne
    · refine KW.regionH 10 (by kernel_rfl) (by kernel_rfl) ?_
      refine HW.val rfl rfl (EX.move rfl) ?_
      refine HW.val rfl rfl (EX.nilCheck rfl) ?_
      refine HW.val rfl rfl (EX.fieldAddr (off := 1) Tryd.underlying44 rfl rfl ti42 rfl rfl) ?_
      refine HW.val rfl rfl (EX.load Tryd.underlying42 rfl rfl (hb.cell_of rfl)) ?_
      refine HW.val rfl rfl (EX.sliceData (by omega) rfl) ?_
      refine HW.val rfl rfl (EX.move rfl) ?_
      refine HW.val rfl rfl (EX.nilCheck rfl) ?_
      refine HW.val rfl rfl (EX.fieldAddr (off := 1) Tryd.underlying44 rfl rfl ti42 rfl rfl) ?_
      refine HW.val rfl rfl (EX.load Tryd.underlying42 rfl rfl (hb.cell_of rfl)) ?_
      refine HW.val rfl rfl (EX.lenA Tryd.underlying42 rfl) ?_
      refine HW.tail ?_
      refine OW.val rfl rfl (EX.unsafeStr (g := g) (l := l) (rest := rest) Tryd.underlying56 (by kernel_rfl) (hbg.drewN _) hl (by omega) rfl rfl) ?_
      refine OW.val rfl rfl (EX.assign rfl) ?_
      refine OW.nil ?_
      refine KW.ret (ret1 rfl rfl ?_)
      exact ⟨rfl, Lib.below_freeze (below_drewN (Below.refl B w) _) (p := ⟨g, 0, none⟩) hg _⟩
end Go.Proofs.YtieojdkblakchaaDoor
