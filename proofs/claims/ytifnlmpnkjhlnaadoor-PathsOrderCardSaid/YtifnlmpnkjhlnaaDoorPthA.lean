/-
  paths: the iterator over a path's parts, Join.
-/
import Derived.Test.YtifnlmpnkjhlnaaDoorPthD
import Derived.Test.YtifnlmpnkjhlnaaDoorKr
import Derived.Test.YtifnlmpnkjhlnaaDoorKs
import Derived.Test.YtifnlmpnkjhlnaaDoorTi
import Derived.Test.YtifnlmpnkjhlnaaDoorShelf
namespace Go.Proofs.YtifnlmpnkjhlnaaDoor
open Go.RowKit Pth
set_option linter.unusedVariables false
set_option linter.unusedSimpArgs false

def txtsV (l : Txts) : List Value := l.map fun s => str s
theorem txtsV_length (l : Txts) : (txtsV l).length = l.length := by simp [txtsV]
theorem txtsV_snoc (l : Txts) (x : List UInt8) : txtsV (l ++ [x]) = txtsV l ++ [str x] := by simp [txtsV]
/-- texts are put together, a slash between two -/
theorem join_c (A : Option Addr) (c : Nat) (l : Txts) (B : Nat) (w : World) (hs : Sl w B A (txtsV l)) (hB : B ≤ w.heap.size) (hc : l.length ≤ c) (hl : wt l ≤ 140737488355328) :
    Ret Tryd.prog 26 [.slice A l.length c, str [47]] w fun v w' => v = str (joinS l) ∧ Ext w w' := by
  have hn : (!(Tryd.f26.name == "runtime.NumGoroutine") && Tryd.f26.body.isSome) = true := by kernel_rfl
  by_cases h0 : l = []
  · subst h0
    refine (Ret.of_calls Tryd.func26 hn ((Tryd.strings_Join_none A c ⟨#[47]⟩ w).mono (fun e w' h => ⟨h.1, (show Ext w w' by rw [h.2]; exact Ext.refl _)⟩))).mono ?_
    rintro v w' ⟨rfl, hx⟩
    exact ⟨rfl, hx⟩
  · rcases hs with hs | ⟨bk, o, rfl, hbk, hcell⟩
    · exact absurd (by simpa [txtsV] using hs) h0
    · have hml : (l.map fun s => (⟨s.toArray⟩ : ByteArray)).map (·.data.toList) = l := by
        rw [List.map_map]
        exact List.map_id l
      have hln : (l.map fun s => (⟨s.toArray⟩ : ByteArray)).length = l.length := by simp
      have h := Tryd.strings_Join bk o c (l.map fun s => (⟨s.toArray⟩ : ByteArray)) ⟨#[47]⟩ w (fun j x hj => by
        have : (txtsV l)[j]? = some (.string x) := by
          simp only [txtsV, List.getElem?_map] at hj ⊢
          obtain ⟨s, h1, rfl⟩ := Option.map_eq_some_iff.1 hj
          rw [h1]; rfl
        exact hcell j _ this) (by omega) (by rw [hln]; have := wt_len l; omega) (by rw [hln]; exact hc) (by rw [hml]; show (Go.Lib.join l [47]).length ≤ _; rw [joinS_eq]; have := joinS_wt l; omega)
      rw [hml, hln] at h
      have e : Go.Lib.join l (⟨#[47]⟩ : ByteArray).data.toList = joinS l := joinS_eq l
      rw [e] at h
      refine (Ret.of_calls Tryd.func26 hn (h.mono (fun e w' q => q))).mono ?_
      rintro v w' ⟨rfl, hx⟩
      exact ⟨rfl, hx⟩
/-- a round leaves the text's block alone -/
def KpS (sb : Nat) (W W' : World) : Prop := W'.heap[sb]? = W.heap[sb]?
theorem piece_step {s : List UInt8} {i fr : Nat} (h : i ≤ s.length) (hf : fr ≤ i) : s.drop fr = (s.drop fr).take (i - fr) ++ s.drop i := by
  have := List.take_append_drop (i - fr) (s.drop fr)
  rw [List.drop_drop, show fr + (i - fr) = i by omega] at this
  exact this.symm
theorem iter_s (sb : Nat) (s : List UInt8) (hs : s.length ≤ 1000000000000) (w : World) (hsb : Bk w sb 9 [str s]) :
    SeqStopsK Fence.wide 2 Tryd.prog 25 [Value.pointer (some ⟨sb, 0, none⟩)].toArray (fun x => #[str x]) (KpS sb) (fun xs => xs = parts s) (fun pre => pre <+: parts s) (s.length + 1) w := fun l J Jx W hW hJ hJx hY h0 => by
  have hb0 : Bk W sb 9 [str s] := hsb.ext hW
  have hret : Ret Tryd.prog 25 [.func (.yield l) #[] #[], .pointer (some ⟨sb, 0, none⟩)] W fun v W' => (∃ xs, xs = parts s ∧ J xs W') ∨ (∃ pre, pre <+: parts s ∧ Jx pre W') := by
    have hpl : (parts s).length ≤ s.length + 1 := by have := wt_len (parts s); rw [wt_parts] at this; exact this
    refine Ret.enterR 2 Tryd.func25 rfl Tryd.ntmps25 (by kernel_rfl) rfl ?_
    refine KR.seq (KR.region ?_)
    refine OR.val rfl rfl (EX.assign rfl) ?_
    refine OR.nil ?_
    refine KR.seq (KR.region ?_)
    refine OR.val rfl rfl (EX.assign rfl) ?_
    refine OR.nil ?_
    refine KR.block ?_
    refine KR.loop4 (fun (i : Nat) (fr : Nat) (pre : Txts) (wr : World) => i ≤ s.length + 1 ∧ fr ≤ i ∧ (i ≤ s.length → parts s = pre ++ parts (s.drop fr) ∧ ∀ c ∈ (s.drop fr).take (i - fr), c ≠ 47) ∧ (i = s.length + 1 → pre = parts s) ∧ J pre wr ∧ Bk wr sb 9 [str s]) (fun (i : Nat) (fr : Nat) (pre : Txts) (wr : World) => [(0, .func (.yield l) #[] #[]), (1, .pointer (some ⟨sb, 0, none⟩)), (3, .int .i64 ((fr : Nat) : Int)), (4, .int .i64 ((i : Nat) : Int))]) (fun (i : Nat) (fr : Nat) (pre : Txts) (wr : World) => wr) (fun (i : Nat) (fr : Nat) (pre : Txts) (wr : World) => s.length + 1 - i) (0) (0) ([]) (W) ⟨rfl, rfl, rfl, rfl, trivial⟩ rfl ?_ ?_
    · exact ⟨by omega, by omega, fun _ => ⟨rfl, by simp⟩, fun h => by omega, h0, hb0⟩
    · rintro i fr pre wr ⟨hi, hf, hp, hend, hj, hb⟩
      refine KR.seq (KR.seq (KR.region ?_))
      refine OR.val rfl rfl (EX.move rfl) ?_
      refine OR.val rfl rfl (EX.load Tryd.underlying9 rfl rfl (hb.cell_of rfl)) ?_
      refine OR.val rfl rfl (EX.lenS Tryd.underlying9 rfl) ?_
      refine OR.val rfl rfl (by first | exact EX.leqN rfl rfl | exact EX.leqZ rfl rfl) ?_
      refine OR.nil ?_
      refine KR.condD rfl (fun hle => ?_) (fun hle => ?_)
      · obtain ⟨hp1, hp2⟩ := hp hle
        have hpre : pre.length < s.length + 1 := by
          have h1 := List.length_pos_iff.2 (parts_ne (s.drop fr))
          have h2 := congrArg List.length hp1
          rw [List.length_append] at h2
          omega
        have hyl : ∀ x : List UInt8, YieldR Tryd.prog 1 l [str x] wr fun v W' => ∃ b, v = .bool b ∧ ((b = true ∧ J (pre ++ [x]) W' ∧ KpS sb wr W') ∨ (b = false ∧ Jx (pre ++ [x]) W')) := fun x =>
          YieldAt.mono (hY pre x wr hj hpre) (by
            rintro e W' (⟨rfl, h1, h2⟩ | ⟨rfl, h1⟩)
            · exact ⟨_, rfl, true, rfl, .inl ⟨rfl, h1, h2⟩⟩
            · exact ⟨_, rfl, false, rfl, .inr ⟨rfl, h1⟩⟩)
        refine KR.skip (KR.seq (KR.block (KR.seq (KR.region ?_))))
        refine OR.val rfl rfl (EX.move rfl) ?_
        refine OR.val rfl rfl (EX.load Tryd.underlying9 rfl rfl (hb.cell_of rfl)) ?_
        refine OR.val rfl rfl (EX.lenS Tryd.underlying9 rfl) ?_
        refine OR.val rfl rfl (by first | exact EX.eqlN rfl rfl | exact EX.eqlZ rfl rfl) ?_
        refine OR.val rfl rfl (EX.move rfl) ?_
        refine OR.splitD 15 rfl (fun he => ?_) (fun he => ?_)
        · have hpe : parts s = pre ++ [(s.drop fr).take (i - fr)] := by
            have e : (s.drop fr).take (i - fr) = s.drop fr := List.take_of_length_le (by simp; omega)
            rw [e] at hp2 ⊢
            rw [hp1, parts_whole _ hp2]
          refine OR.pass rfl rfl ?_
          refine OR.pass rfl rfl ?_
          refine OR.pass rfl rfl ?_
          refine OR.pass rfl rfl ?_
          refine OR.val rfl rfl (EX.pickT rfl rfl) ?_
          refine OR.nil ?_
          refine KR.condT rfl (KR.seq (KR.seq (KR.region ?_)))
          refine OR.val rfl rfl (EX.move rfl) ?_
          refine OR.val rfl rfl (EX.load Tryd.underlying9 rfl rfl (hb.cell_of rfl)) ?_
          refine OR.val rfl rfl (EX.move rfl) ?_
          refine OR.val rfl rfl (EX.move rfl) ?_
          refine OR.val rfl rfl (EX.sliceLH Tryd.underlying9 rfl rfl rfl (by omega)) ?_
          refine OR.yield rfl rfl rfl rfl rfl (hyl _) ?_
          rintro _ w1 ⟨y, rfl, hv⟩
          refine OR.val rfl rfl (by first | exact EX.notD rfl | exact EX.notB rfl) ?_
          refine OR.nil ?_
          refine KR.cond rfl (fun hy => ?_) (fun hy => ?_)
          · obtain ⟨rfl, hj1⟩ : y = false ∧ Jx (pre ++ [(s.drop fr).take (i - fr)]) w1 := by
              rcases hv with ⟨rfl, _⟩ | h
              · cases hy
              · exact h
            refine KR.ret (retR0 (.inr rfl) rfl rfl rfl ?_)
            exact .inr ⟨_, ⟨[], by rw [List.append_nil, hpe]⟩, hj1⟩
          · obtain ⟨rfl, hj1, hk⟩ : y = true ∧ J (pre ++ [(s.drop fr).take (i - fr)]) w1 ∧ KpS sb wr w1 := by
              rcases hv with h | ⟨rfl, _⟩
              · exact h
              · cases hy
            refine KR.skip (KR.region ?_)
            refine OR.val rfl rfl (EX.move rfl) ?_
            refine OR.val rfl rfl (by first | exact EX.addN (b := 1) (m := 9223372036854775807) rfl rfl rfl (by omega) | exact EX.addZ (m := 9223372036854775807) rfl rfl rfl rfl (by omega)) ?_
            refine OR.val rfl rfl (EX.assign rfl) ?_
            refine OR.nil ?_
            refine KR.leave (KR.region ?_)
            refine OR.val rfl rfl (EX.move rfl) ?_
            refine OR.val rfl rfl (by first | exact EX.addN (b := 1) (m := 9223372036854775807) rfl rfl rfl (by omega) | exact EX.addZ (m := 9223372036854775807) rfl rfl rfl rfl (by omega)) ?_
            refine OR.val rfl rfl (EX.assign rfl) ?_
            refine OR.nil ?_
            have hb1 : Bk w1 sb 9 [str s] := hb.of_block hk
            refine KR.back4 (i + 1) (i + 1) (pre ++ [(s.drop fr).take (i - fr)]) (w1) ⟨rfl, rfl, rfl, rfl, trivial⟩ rfl ?_ (by omega)
            exact ⟨by omega, by omega, fun h => by omega, fun _ => hpe.symm, hj1, hb1⟩
        · skip
          refine OR.val rfl rfl (EX.load Tryd.underlying9 rfl rfl (hb.cell_of rfl)) ?_
          refine OR.val rfl rfl (EX.move rfl) ?_
          refine OR.val rfl rfl (EX.indexS Tryd.underlying9 rfl rfl (List.getElem?_eq_getElem (by omega))) ?_
          refine OR.val rfl rfl (by first | exact EX.eqlN (b := 47) rfl rfl | exact EX.eqlZ rfl rfl) ?_
          refine OR.val rfl rfl (EX.pickF rfl rfl) ?_
          refine OR.nil ?_
          refine KR.condD rfl (fun hc => ?_) (fun hc => ?_)
          · refine KR.seq (KR.seq (KR.region ?_))
            refine OR.val rfl rfl (EX.move rfl) ?_
            refine OR.val rfl rfl (EX.load Tryd.underlying9 rfl rfl (hb.cell_of rfl)) ?_
            refine OR.val rfl rfl (EX.move rfl) ?_
            refine OR.val rfl rfl (EX.move rfl) ?_
            refine OR.val rfl rfl (EX.sliceLH Tryd.underlying9 rfl rfl rfl (by omega)) ?_
            have hlt : i < s.length := by omega
            have hd : s.drop i = 47 :: s.drop (i + 1) := by
              rw [List.drop_eq_getElem_cons hlt]
              congr 1
              exact UInt8.toNat_inj.1 hc
            have hpe : parts s = (pre ++ [(s.drop fr).take (i - fr)]) ++ parts (s.drop (i + 1)) := by
              rw [hp1, piece_step hle hf, hd, parts_slash _ _ hp2, ← hd, ← piece_step hle hf]
              simp
            refine OR.yield rfl rfl rfl rfl rfl (hyl _) ?_
            rintro _ w1 ⟨y, rfl, hv⟩
            refine OR.val rfl rfl (by first | exact EX.notD rfl | exact EX.notB rfl) ?_
            refine OR.nil ?_
            refine KR.cond rfl (fun hy => ?_) (fun hy => ?_)
            · obtain ⟨rfl, hj1⟩ : y = false ∧ Jx (pre ++ [(s.drop fr).take (i - fr)]) w1 := by
                rcases hv with ⟨rfl, _⟩ | h
                · cases hy
                · exact h
              refine KR.ret (retR0 (.inr rfl) rfl rfl rfl ?_)
              exact .inr ⟨_, ⟨parts (s.drop (i + 1)), hpe.symm⟩, hj1⟩
            · obtain ⟨rfl, hj1, hk⟩ : y = true ∧ J (pre ++ [(s.drop fr).take (i - fr)]) w1 ∧ KpS sb wr w1 := by
                rcases hv with h | ⟨rfl, _⟩
                · exact h
                · cases hy
              refine KR.skip (KR.region ?_)
              refine OR.val rfl rfl (EX.move rfl) ?_
              refine OR.val rfl rfl (by first | exact EX.addN (b := 1) (m := 9223372036854775807) rfl rfl rfl (by omega) | exact EX.addZ (m := 9223372036854775807) rfl rfl rfl rfl (by omega)) ?_
              refine OR.val rfl rfl (EX.assign rfl) ?_
              refine OR.nil ?_
              refine KR.leave (KR.region ?_)
              refine OR.val rfl rfl (EX.move rfl) ?_
              refine OR.val rfl rfl (by first | exact EX.addN (b := 1) (m := 9223372036854775807) rfl rfl rfl (by omega) | exact EX.addZ (m := 9223372036854775807) rfl rfl rfl rfl (by omega)) ?_
              refine OR.val rfl rfl (EX.assign rfl) ?_
              refine OR.nil ?_
              have hb1 : Bk w1 sb 9 [str s] := hb.of_block hk
              refine KR.back4 (i + 1) (i + 1) (pre ++ [(s.drop fr).take (i - fr)]) (w1) ⟨rfl, rfl, rfl, rfl, trivial⟩ rfl ?_ (by omega)
              exact ⟨by omega, by omega, fun _ => ⟨hpe, by simp⟩, fun h => by omega, hj1, hb1⟩
          · have hlt : i < s.length := by omega
            refine KR.skip (KR.leave (KR.region ?_))
            refine OR.val rfl rfl (EX.move rfl) ?_
            refine OR.val rfl rfl (by first | exact EX.addN (b := 1) (m := 9223372036854775807) rfl rfl rfl (by omega) | exact EX.addZ (m := 9223372036854775807) rfl rfl rfl rfl (by omega)) ?_
            refine OR.val rfl rfl (EX.assign rfl) ?_
            refine OR.nil ?_
            refine KR.back4 (i + 1) (fr) (pre) (wr) ⟨rfl, rfl, rfl, rfl, trivial⟩ rfl ?_ (by omega)
            refine ⟨by omega, by omega, fun _ => ⟨hp1, ?_⟩, fun h => by omega, hj, hb⟩
            have e : (s.drop fr).take (i + 1 - fr) = (s.drop fr).take (i - fr) ++ [s[i]] := by
              rw [show i + 1 - fr = i - fr + 1 by omega, List.take_add_one, List.getElem?_drop, show fr + (i - fr) = i by omega, List.getElem?_eq_getElem hlt]
              rfl
            rw [e]
            intro c hcm
            rcases List.mem_append.1 hcm with hcm | hcm
            · exact hp2 c hcm
            · simp only [List.mem_singleton] at hcm
              subst hcm
              exact fun q => hc (by rw [q]; rfl)
      · obtain rfl : i = s.length + 1 := by omega
        refine KR.exit rfl ?_
        refine KR.done (retR0 (.inl rfl) rfl rfl rfl ?_)
        exact .inl ⟨_, hend rfl, hj⟩
  exact callsIn_wide.2 (hret.2.mono fun e W' ⟨v, he, hq⟩ => ⟨⟨v, he⟩, hq⟩)
end Go.Proofs.YtifnlmpnkjhlnaaDoor
