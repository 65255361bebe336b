/-
  What the statements rest on, part 3 of 5: many small texts, one behind the other.
-/
import Derived.Test.YthgfdpcpbghkpaaGreatDoorMrgB
import Derived.Laws.StructEq
import Derived.Laws.ResultCell
import Derived.Scope
set_option linter.unusedSimpArgs false
set_option linter.unusedVariables false
set_option linter.unnecessarySimpa false
namespace Go.Proofs.YthgfdpcpbghkpaaGreatDoor
open Go.RowKit Rec
theorem oneB {w : World} {b k : Nat} {T : TypeId} (h : Bk w b T [.int .u8 (k : Int)]) (hk : k ≤ 255) : Sl w w.heap.size (some ⟨b, 0, none⟩) (bytesV [UInt8.ofNat k]) := by
  have e : bytesV [UInt8.ofNat k] = [.int .u8 (k : Int)] := by
    have : (UInt8.ofNat k).toNat = k := by simp; omega
    simp [bytesV, this]
  rw [e]
  exact h.sl
theorem repeat_c (n : Nat) (hn : n ≤ 1000) (w : World) : Ret Tryz.prog 64 [str [0], .int .i64 (n : Int)] w fun v w' => v = str (List.replicate n 0) ∧ Ext w w' := by
  have hnn : (!(Tryz.f64.name == "runtime.NumGoroutine") && Tryz.f64.body.isSome) = true := by kernel_rfl
  have h := Tryz.strings_Repeat ⟨#[0]⟩ n w (by omega) (by show 1 * n ≤ _; omega)
  have e : Go.Lib.repeatL (⟨#[0]⟩ : ByteArray).data.toList n = List.replicate n 0 := by
    show Go.Lib.repeatL [0] n = _
    clear h hn
    induction n with
    | zero => rfl
    | succ n ih => rw [List.replicate_succ, ← ih]; rfl
  rw [e] at h
  exact Ret.of_calls Tryz.func64 hnn h
theorem rieee_c (s : List UInt8) (hs : s.length ≤ 100000) (w : World) : Ret Tryz.prog 67 [str s] w fun v w' => v = .int .u32 (cieee s : Nat) ∧ Ext w w' := by
  have h := rieee_s s hs w
  rwa [ieee_eq] at h
theorem cieee_lt (s : List UInt8) : cieee s < 4294967296 := trn_lt _ _ _ (by decide)
def head (kind gen index : Nat) (n : Nat) : List UInt8 := [75, 73, 83, 84] ++ [UInt8.ofNat kind] ++ be 8 gen ++ be 4 index ++ be 2 n
theorem head_length (kind gen index n : Nat) : (head kind gen index n).length = 19 := by simp [head, be_length]
set_option maxRecDepth 20000 in
theorem encode_s (kind : Nat) (hk : kind ≤ 255) (gen index : Int) (data : List UInt8) (hd : data.length ≤ 140737488355328) (w : World) :
    Ret Tryz.prog 34 [.int .u8 (kind : Int), .int .i64 gen, .int .i64 index, str data] w fun v w' => v = .tuple #[str (encodeR kind gen index data).1, .int .i64 (((encodeR kind gen index data).2 : Nat) : Int)] ∧ Ext w w' := by
  have eb : bad kind gen index data → encodeR kind gen index data = ([], 200) := fun h => by unfold encodeR; rw [if_pos h]
  refine Ret.enter Tryz.func34 rfl Tryz.ntmps34 (by kernel_rfl) rfl ?_
  refine KW.seq (KW.region ?_)
  refine OW.val rfl rfl (EX.assign rfl) ?_
  refine OW.val rfl rfl (EX.assign rfl) ?_
  refine OW.nil ?_
  refine KW.seq (KW.seq ?_)
  refine KW.region ?_
  refine OW.val rfl rfl (EX.move rfl) ?_
  refine OW.val rfl rfl (by first | exact EX.eqlN (b := 0) rfl rfl | exact EX.eqlZ rfl rfl) ?_
  refine OW.val rfl rfl (EX.move rfl) ?_
  refine OW.splitD 13 rfl (fun a1 => ?_) (fun a1 => ?_)
  · refine OW.pass rfl rfl ?_
    refine OW.pass rfl rfl ?_
    refine OW.val rfl rfl (EX.pickT rfl rfl) ?_
    refine OW.val rfl rfl (EX.move rfl) ?_
    refine OW.pass rfl rfl ?_
    refine OW.pass rfl rfl ?_
    refine OW.val rfl rfl (EX.pickT rfl rfl) ?_
    refine OW.val rfl rfl (EX.move rfl) ?_
    refine OW.pass rfl rfl ?_
    refine OW.pass rfl rfl ?_
    refine OW.val rfl rfl (EX.pickT rfl rfl) ?_
    refine OW.val rfl rfl (EX.move rfl) ?_
    refine OW.pass rfl rfl ?_
    refine OW.pass rfl rfl ?_
    refine OW.val rfl rfl (EX.pickT rfl rfl) ?_
    refine OW.val rfl rfl (EX.move rfl) ?_
    refine OW.pass rfl rfl ?_
    refine OW.pass rfl rfl ?_
    refine OW.pass rfl rfl ?_
    refine OW.val rfl rfl (EX.pickT rfl rfl) ?_
    refine OW.nil ?_
    refine KW.condT rfl (KW.seq (KW.region ?_))
    refine OW.val rfl rfl (EX.assign rfl) ?_
    refine OW.val rfl rfl (EX.assign rfl) ?_
    refine OW.nil ?_
    refine KW.ret (ret2 rfl rfl rfl ?_)
    rw [eb (.inl a1)]
    exact ⟨rfl, Ext.refl _⟩
  · refine OW.val rfl rfl (EX.move rfl) ?_
    refine OW.val rfl rfl (by first | exact EX.lssN (b := 0) rfl rfl | exact EX.lssZ rfl rfl) ?_
    refine OW.val rfl rfl (EX.pickF rfl rfl) ?_
    refine OW.val rfl rfl (EX.move rfl) ?_
    refine OW.splitD 17 rfl (fun a2 => ?_) (fun a2 => ?_)
    · refine OW.pass rfl rfl ?_
      refine OW.pass rfl rfl ?_
      refine OW.val rfl rfl (EX.pickT rfl rfl) ?_
      refine OW.val rfl rfl (EX.move rfl) ?_
      refine OW.pass rfl rfl ?_
      refine OW.pass rfl rfl ?_
      refine OW.val rfl rfl (EX.pickT rfl rfl) ?_
      refine OW.val rfl rfl (EX.move rfl) ?_
      refine OW.pass rfl rfl ?_
      refine OW.pass rfl rfl ?_
      refine OW.val rfl rfl (EX.pickT rfl rfl) ?_
      refine OW.val rfl rfl (EX.move rfl) ?_
      refine OW.pass rfl rfl ?_
      refine OW.pass rfl rfl ?_
      refine OW.pass rfl rfl ?_
      refine OW.val rfl rfl (EX.pickT rfl rfl) ?_
      refine OW.nil ?_
      refine KW.condT rfl (KW.seq (KW.region ?_))
      refine OW.val rfl rfl (EX.assign rfl) ?_
      refine OW.val rfl rfl (EX.assign rfl) ?_
      refine OW.nil ?_
      refine KW.ret (ret2 rfl rfl rfl ?_)
      rw [eb (.inr (.inl a2))]
      exact ⟨rfl, Ext.refl _⟩
    · refine OW.val rfl rfl (EX.move rfl) ?_
      refine OW.val rfl rfl (by first | exact EX.gtrN (b := 4611686018427387904) rfl rfl | exact EX.gtrZ rfl rfl) ?_
      refine OW.val rfl rfl (EX.pickF rfl rfl) ?_
      refine OW.val rfl rfl (EX.move rfl) ?_
      refine OW.splitD 21 rfl (fun a3 => ?_) (fun a3 => ?_)
      · refine OW.pass rfl rfl ?_
        refine OW.pass rfl rfl ?_
        refine OW.val rfl rfl (EX.pickT rfl rfl) ?_
        refine OW.val rfl rfl (EX.move rfl) ?_
        refine OW.pass rfl rfl ?_
        refine OW.pass rfl rfl ?_
        refine OW.val rfl rfl (EX.pickT rfl rfl) ?_
        refine OW.val rfl rfl (EX.move rfl) ?_
        refine OW.pass rfl rfl ?_
        refine OW.pass rfl rfl ?_
        refine OW.pass rfl rfl ?_
        refine OW.val rfl rfl (EX.pickT rfl rfl) ?_
        refine OW.nil ?_
        refine KW.condT rfl (KW.seq (KW.region ?_))
        refine OW.val rfl rfl (EX.assign rfl) ?_
        refine OW.val rfl rfl (EX.assign rfl) ?_
        refine OW.nil ?_
        refine KW.ret (ret2 rfl rfl rfl ?_)
        rw [eb (.inr (.inr (.inl a3)))]
        exact ⟨rfl, Ext.refl _⟩
      · refine OW.val rfl rfl (EX.move rfl) ?_
        refine OW.val rfl rfl (by first | exact EX.lssN (b := 0) rfl rfl | exact EX.lssZ rfl rfl) ?_
        refine OW.val rfl rfl (EX.pickF rfl rfl) ?_
        refine OW.val rfl rfl (EX.move rfl) ?_
        refine OW.splitD 25 rfl (fun a4 => ?_) (fun a4 => ?_)
        · refine OW.pass rfl rfl ?_
          refine OW.pass rfl rfl ?_
          refine OW.val rfl rfl (EX.pickT rfl rfl) ?_
          refine OW.val rfl rfl (EX.move rfl) ?_
          refine OW.pass rfl rfl ?_
          refine OW.pass rfl rfl ?_
          refine OW.pass rfl rfl ?_
          refine OW.val rfl rfl (EX.pickT rfl rfl) ?_
          refine OW.nil ?_
          refine KW.condT rfl (KW.seq (KW.region ?_))
          refine OW.val rfl rfl (EX.assign rfl) ?_
          refine OW.val rfl rfl (EX.assign rfl) ?_
          refine OW.nil ?_
          refine KW.ret (ret2 rfl rfl rfl ?_)
          rw [eb (.inr (.inr (.inr (.inl a4))))]
          exact ⟨rfl, Ext.refl _⟩
        · refine OW.val rfl rfl (EX.move rfl) ?_
          refine OW.val rfl rfl (by first | exact EX.gtrN (b := 2147483647) rfl rfl | exact EX.gtrZ rfl rfl) ?_
          refine OW.val rfl rfl (EX.pickF rfl rfl) ?_
          refine OW.val rfl rfl (EX.move rfl) ?_
          refine OW.splitD 29 rfl (fun a5 => ?_) (fun a5 => ?_)
          · refine OW.pass rfl rfl ?_
            refine OW.pass rfl rfl ?_
            refine OW.pass rfl rfl ?_
            refine OW.val rfl rfl (EX.pickT rfl rfl) ?_
            refine OW.nil ?_
            refine KW.condT rfl (KW.seq (KW.region ?_))
            refine OW.val rfl rfl (EX.assign rfl) ?_
            refine OW.val rfl rfl (EX.assign rfl) ?_
            refine OW.nil ?_
            refine KW.ret (ret2 rfl rfl rfl ?_)
            rw [eb (.inr (.inr (.inr (.inr (.inl a5)))))]
            exact ⟨rfl, Ext.refl _⟩
          · refine OW.val rfl rfl (EX.move rfl) ?_
            refine OW.val rfl rfl (EX.lenS Tryz.underlying9 rfl) ?_
            refine OW.val rfl rfl (by first | exact EX.gtrN (b := 486) rfl rfl | exact EX.gtrZ rfl rfl) ?_
            refine OW.val rfl rfl (EX.pickF rfl rfl) ?_
            refine OW.nil ?_
            refine KW.condD rfl (fun a6 => ?_) (fun a6 => ?_)
            · refine KW.seq (KW.region ?_)
              refine OW.val rfl rfl (EX.assign rfl) ?_
              refine OW.val rfl rfl (EX.assign rfl) ?_
              refine OW.nil ?_
              refine KW.ret (ret2 rfl rfl rfl ?_)
              rw [eb (.inr (.inr (.inr (.inr (.inr a6)))))]
              exact ⟨rfl, Ext.refl _⟩
            · refine KW.skip (KW.seq ?_)
              have e : encodeR kind gen index data = (text kind gen.toNat index.toNat data, 0) := by unfold encodeR; rw [if_neg]; rintro (h | h | h | h | h | h) <;> omega
              rw [e]
              obtain ⟨g, rfl⟩ := Int.eq_ofNat_of_zero_le (show 0 ≤ gen by omega)
              obtain ⟨ix, rfl⟩ := Int.eq_ofNat_of_zero_le (show 0 ≤ index by omega)
              have l8 := be_length 8 g
              have l4 := be_length 4 ix
              have l2 := be_length 2 data.length
              refine KW.cut1 (fun (wr : World) => Ext w wr) (fun (wr : World) => [(3, str (data)), (10, str (head kind g ix data.length))]) (fun (wr : World) => wr) ?_ ?_
              · skip
                refine KW.regionG (N := 18) (fun w' => Ext w w') (by kernel_rfl) rfl ?_
                have hS : (fun w' => Ext w w') w.drew := Ext.drew w
                refine GW.val 0 rfl (by kernel_rfl) (by kernel_rfl) (by kernel_rfl) rfl rfl hS (fun w' hS' => EX.move rfl) ?_
                refine GW.val 4 rfl (by kernel_rfl) (by kernel_rfl) (by kernel_rfl) rfl rfl hS (fun w' hS' => EX.move rfl) ?_
                refine GW.val 5 rfl (by kernel_rfl) (by kernel_rfl) (by kernel_rfl) rfl rfl hS (fun w' hS' => by first | exact EX.convN (m := 18446744073709551615) Tryz.underlying3 Tryz.underlying122 rfl rfl (by omega) | exact EX.convW (m := 18446744073709551616) Tryz.underlying3 Tryz.underlying122 rfl rfl (by decide) | exact EX.convZ Tryz.underlying3 Tryz.underlying122 rfl) ?_
                refine GW.val 8 rfl (by kernel_rfl) (by kernel_rfl) (by kernel_rfl) rfl rfl hS (fun w' hS' => EX.move rfl) ?_
                refine GW.val 9 rfl (by kernel_rfl) (by kernel_rfl) (by kernel_rfl) rfl rfl hS (fun w' hS' => by first | exact EX.convN (m := 18446744073709551615) Tryz.underlying3 Tryz.underlying122 rfl rfl (by omega) | exact EX.convW (m := 18446744073709551616) Tryz.underlying3 Tryz.underlying122 rfl rfl (by decide) | exact EX.convZ Tryz.underlying3 Tryz.underlying122 rfl) ?_
                refine GW.val 12 rfl (by kernel_rfl) (by kernel_rfl) (by kernel_rfl) rfl rfl hS (fun w' hS' => EX.move rfl) ?_
                refine GW.val 13 rfl (by kernel_rfl) (by kernel_rfl) (by kernel_rfl) rfl rfl hS (fun w' hS' => EX.lenS Tryz.underlying9 rfl) ?_
                refine GW.val 14 rfl (by kernel_rfl) (by kernel_rfl) (by kernel_rfl) rfl rfl hS (fun w' hS' => by first | exact EX.convN (m := 18446744073709551615) Tryz.underlying3 Tryz.underlying122 rfl rfl (by omega) | exact EX.convW (m := 18446744073709551616) Tryz.underlying3 Tryz.underlying122 rfl rfl (by decide) | exact EX.convZ Tryz.underlying3 Tryz.underlying122 rfl) ?_
                refine GW.two 1 6 (by kernel_rfl) ?_ ?_
                · refine GO.buildB 1 1 rfl rfl rfl Tryz.underlying54 ti5 rfl rfl rfl rfl rfl (by decide) ?_
                  rintro gb w1 hge1 h1 hx1
                  refine ⟨hS.trans hx1, fun hS => ?_⟩
                  refine GW.strong (fun w' => Ext w w' ∧ Bk w' gb 5 [.int .u8 (kind : Int)]) (fun _ h => h.1) ?_
                  replace hS := (⟨hS, h1⟩ : (fun w' => Ext w w' ∧ Bk w' gb 5 [.int .u8 (kind : Int)]) w1)
                  refine GW.val 2 rfl (by kernel_rfl) (by kernel_rfl) (by kernel_rfl) rfl rfl hS (fun w' hS' => EX.strOf Tryz.underlying54 Tryz.underlying5 Tryz.underlying9 rfl (oneB hS'.2 hk) rfl) ?_
                  refine GW.val 3 rfl (by kernel_rfl) (by kernel_rfl) (by kernel_rfl) rfl rfl hS (fun w' hS' => EX.addS (s := [75, 73, 83, 84]) rfl rfl (by first | omega | (simp only [List.length_append, List.length_cons, List.length_nil, List.length_take, List.length_drop, List.length_replicate]; omega))) ?_
                  refine GW.call 6 rfl (by kernel_rfl) rfl rfl rfl (number_r g 8 (by omega) (by decide) w1) ?_
                  rintro _ w6 ⟨rfl, hx6⟩
                  refine ⟨⟨hS.1.trans hx6, hS.2.ext hx6⟩, fun hS => ?_⟩
                  refine GW.val 7 rfl (by kernel_rfl) (by kernel_rfl) (by kernel_rfl) rfl rfl hS (fun w' hS' => EX.addS rfl rfl (by first | omega | (simp only [List.length_append, List.length_cons, List.length_nil, List.length_take, List.length_drop, List.length_replicate]; omega))) ?_
                  refine GW.call 10 rfl (by kernel_rfl) rfl rfl rfl (number_r ix 4 (by omega) (by decide) w6) ?_
                  rintro _ w10 ⟨rfl, hx10⟩
                  refine ⟨⟨hS.1.trans hx10, hS.2.ext hx10⟩, fun hS => ?_⟩
                  refine GW.val 11 rfl (by kernel_rfl) (by kernel_rfl) (by kernel_rfl) rfl rfl hS (fun w' hS' => EX.addS rfl rfl (by first | omega | (simp only [List.length_append, List.length_cons, List.length_nil, List.length_take, List.length_drop, List.length_replicate]; omega))) ?_
                  refine GW.call 15 rfl (by kernel_rfl) rfl rfl rfl (number_r data.length 2 (by omega) (by decide) w10) ?_
                  rintro _ w15 ⟨rfl, hx15⟩
                  refine ⟨⟨hS.1.trans hx15, hS.2.ext hx15⟩, fun hS => ?_⟩
                  refine GW.val 16 rfl (by kernel_rfl) (by kernel_rfl) (by kernel_rfl) rfl rfl hS (fun w' hS' => EX.addS rfl rfl (by first | omega | (simp only [List.length_append, List.length_cons, List.length_nil, List.length_take, List.length_drop, List.length_replicate]; omega))) ?_
                  refine GW.val 17 rfl (by kernel_rfl) (by kernel_rfl) (by kernel_rfl) rfl rfl hS (fun w' hS' => EX.assign rfl) ?_
                  refine GW.done (by kernel_rfl) ?_
                  refine KW.meet1 w15 ⟨rfl, rfl, trivial⟩ rfl ?_
                  exact hS.1
                · refine GO.call 6 rfl rfl rfl rfl (number_r g 8 (by omega) (by decide) w.drew) ?_
                  rintro _ w6 ⟨rfl, hx6⟩
                  refine ⟨hS.trans hx6, fun hS => ?_⟩
                  refine GW.two 1 10 (by kernel_rfl) ?_ ?_
                  · refine GO.buildB 1 1 rfl rfl rfl Tryz.underlying54 ti5 rfl rfl rfl rfl rfl (by decide) ?_
                    rintro gb w1 hge1 h1 hx1
                    refine ⟨hS.trans hx1, fun hS => ?_⟩
                    refine GW.strong (fun w' => Ext w w' ∧ Bk w' gb 5 [.int .u8 (kind : Int)]) (fun _ h => h.1) ?_
                    replace hS := (⟨hS, h1⟩ : (fun w' => Ext w w' ∧ Bk w' gb 5 [.int .u8 (kind : Int)]) w1)
                    refine GW.val 2 rfl (by kernel_rfl) (by kernel_rfl) (by kernel_rfl) rfl rfl hS (fun w' hS' => EX.strOf Tryz.underlying54 Tryz.underlying5 Tryz.underlying9 rfl (oneB hS'.2 hk) rfl) ?_
                    refine GW.val 3 rfl (by kernel_rfl) (by kernel_rfl) (by kernel_rfl) rfl rfl hS (fun w' hS' => EX.addS (s := [75, 73, 83, 84]) rfl rfl (by first | omega | (simp only [List.length_append, List.length_cons, List.length_nil, List.length_take, List.length_drop, List.length_replicate]; omega))) ?_
                    refine GW.val 7 rfl (by kernel_rfl) (by kernel_rfl) (by kernel_rfl) rfl rfl hS (fun w' hS' => EX.addS rfl rfl (by first | omega | (simp only [List.length_append, List.length_cons, List.length_nil, List.length_take, List.length_drop, List.length_replicate]; omega))) ?_
                    refine GW.call 10 rfl (by kernel_rfl) rfl rfl rfl (number_r ix 4 (by omega) (by decide) w1) ?_
                    rintro _ w10 ⟨rfl, hx10⟩
                    refine ⟨⟨hS.1.trans hx10, hS.2.ext hx10⟩, fun hS => ?_⟩
                    refine GW.val 11 rfl (by kernel_rfl) (by kernel_rfl) (by kernel_rfl) rfl rfl hS (fun w' hS' => EX.addS rfl rfl (by first | omega | (simp only [List.length_append, List.length_cons, List.length_nil, List.length_take, List.length_drop, List.length_replicate]; omega))) ?_
                    refine GW.call 15 rfl (by kernel_rfl) rfl rfl rfl (number_r data.length 2 (by omega) (by decide) w10) ?_
                    rintro _ w15 ⟨rfl, hx15⟩
                    refine ⟨⟨hS.1.trans hx15, hS.2.ext hx15⟩, fun hS => ?_⟩
                    refine GW.val 16 rfl (by kernel_rfl) (by kernel_rfl) (by kernel_rfl) rfl rfl hS (fun w' hS' => EX.addS rfl rfl (by first | omega | (simp only [List.length_append, List.length_cons, List.length_nil, List.length_take, List.length_drop, List.length_replicate]; omega))) ?_
                    refine GW.val 17 rfl (by kernel_rfl) (by kernel_rfl) (by kernel_rfl) rfl rfl hS (fun w' hS' => EX.assign rfl) ?_
                    refine GW.done (by kernel_rfl) ?_
                    refine KW.meet1 w15 ⟨rfl, rfl, trivial⟩ rfl ?_
                    exact hS.1
                  · refine GO.call 10 rfl rfl rfl rfl (number_r ix 4 (by omega) (by decide) w6) ?_
                    rintro _ w10 ⟨rfl, hx10⟩
                    refine ⟨hS.trans hx10, fun hS => ?_⟩
                    refine GW.two 1 15 (by kernel_rfl) ?_ ?_
                    · refine GO.buildB 1 1 rfl rfl rfl Tryz.underlying54 ti5 rfl rfl rfl rfl rfl (by decide) ?_
                      rintro gb w1 hge1 h1 hx1
                      refine ⟨hS.trans hx1, fun hS => ?_⟩
                      refine GW.strong (fun w' => Ext w w' ∧ Bk w' gb 5 [.int .u8 (kind : Int)]) (fun _ h => h.1) ?_
                      replace hS := (⟨hS, h1⟩ : (fun w' => Ext w w' ∧ Bk w' gb 5 [.int .u8 (kind : Int)]) w1)
                      refine GW.val 2 rfl (by kernel_rfl) (by kernel_rfl) (by kernel_rfl) rfl rfl hS (fun w' hS' => EX.strOf Tryz.underlying54 Tryz.underlying5 Tryz.underlying9 rfl (oneB hS'.2 hk) rfl) ?_
                      refine GW.val 3 rfl (by kernel_rfl) (by kernel_rfl) (by kernel_rfl) rfl rfl hS (fun w' hS' => EX.addS (s := [75, 73, 83, 84]) rfl rfl (by first | omega | (simp only [List.length_append, List.length_cons, List.length_nil, List.length_take, List.length_drop, List.length_replicate]; omega))) ?_
                      refine GW.val 7 rfl (by kernel_rfl) (by kernel_rfl) (by kernel_rfl) rfl rfl hS (fun w' hS' => EX.addS rfl rfl (by first | omega | (simp only [List.length_append, List.length_cons, List.length_nil, List.length_take, List.length_drop, List.length_replicate]; omega))) ?_
                      refine GW.val 11 rfl (by kernel_rfl) (by kernel_rfl) (by kernel_rfl) rfl rfl hS (fun w' hS' => EX.addS rfl rfl (by first | omega | (simp only [List.length_append, List.length_cons, List.length_nil, List.length_take, List.length_drop, List.length_replicate]; omega))) ?_
                      refine GW.call 15 rfl (by kernel_rfl) rfl rfl rfl (number_r data.length 2 (by omega) (by decide) w1) ?_
                      rintro _ w15 ⟨rfl, hx15⟩
                      refine ⟨⟨hS.1.trans hx15, hS.2.ext hx15⟩, fun hS => ?_⟩
                      refine GW.val 16 rfl (by kernel_rfl) (by kernel_rfl) (by kernel_rfl) rfl rfl hS (fun w' hS' => EX.addS rfl rfl (by first | omega | (simp only [List.length_append, List.length_cons, List.length_nil, List.length_take, List.length_drop, List.length_replicate]; omega))) ?_
                      refine GW.val 17 rfl (by kernel_rfl) (by kernel_rfl) (by kernel_rfl) rfl rfl hS (fun w' hS' => EX.assign rfl) ?_
                      refine GW.done (by kernel_rfl) ?_
                      refine KW.meet1 w15 ⟨rfl, rfl, trivial⟩ rfl ?_
                      exact hS.1
                    · refine GO.call 15 rfl rfl rfl rfl (number_r data.length 2 (by omega) (by decide) w10) ?_
                      rintro _ w15 ⟨rfl, hx15⟩
                      refine ⟨hS.trans hx15, fun hS => ?_⟩
                      refine GW.buildB 1 1 rfl (by kernel_rfl) rfl rfl Tryz.underlying54 ti5 rfl rfl rfl rfl rfl (by decide) ?_
                      rintro gb w1 hge1 h1 hx1
                      refine ⟨hS.trans hx1, fun hS => ?_⟩
                      refine GW.strong (fun w' => Ext w w' ∧ Bk w' gb 5 [.int .u8 (kind : Int)]) (fun _ h => h.1) ?_
                      replace hS := (⟨hS, h1⟩ : (fun w' => Ext w w' ∧ Bk w' gb 5 [.int .u8 (kind : Int)]) w1)
                      refine GW.val 2 rfl (by kernel_rfl) (by kernel_rfl) (by kernel_rfl) rfl rfl hS (fun w' hS' => EX.strOf Tryz.underlying54 Tryz.underlying5 Tryz.underlying9 rfl (oneB hS'.2 hk) rfl) ?_
                      refine GW.val 3 rfl (by kernel_rfl) (by kernel_rfl) (by kernel_rfl) rfl rfl hS (fun w' hS' => EX.addS (s := [75, 73, 83, 84]) rfl rfl (by first | omega | (simp only [List.length_append, List.length_cons, List.length_nil, List.length_take, List.length_drop, List.length_replicate]; omega))) ?_
                      refine GW.val 7 rfl (by kernel_rfl) (by kernel_rfl) (by kernel_rfl) rfl rfl hS (fun w' hS' => EX.addS rfl rfl (by first | omega | (simp only [List.length_append, List.length_cons, List.length_nil, List.length_take, List.length_drop, List.length_replicate]; omega))) ?_
                      refine GW.val 11 rfl (by kernel_rfl) (by kernel_rfl) (by kernel_rfl) rfl rfl hS (fun w' hS' => EX.addS rfl rfl (by first | omega | (simp only [List.length_append, List.length_cons, List.length_nil, List.length_take, List.length_drop, List.length_replicate]; omega))) ?_
                      refine GW.val 16 rfl (by kernel_rfl) (by kernel_rfl) (by kernel_rfl) rfl rfl hS (fun w' hS' => EX.addS rfl rfl (by first | omega | (simp only [List.length_append, List.length_cons, List.length_nil, List.length_take, List.length_drop, List.length_replicate]; omega))) ?_
                      refine GW.val 17 rfl (by kernel_rfl) (by kernel_rfl) (by kernel_rfl) rfl rfl hS (fun w' hS' => EX.assign rfl) ?_
                      refine GW.done (by kernel_rfl) ?_
                      refine KW.meet1 w1 ⟨rfl, rfl, trivial⟩ rfl ?_
                      exact hS.1
              · rintro wr hxr
                have hh := head_length kind g ix data.length
                refine KW.seq (KW.region ?_)
                refine OW.val rfl rfl (EX.move rfl) ?_
                refine OW.val rfl rfl (EX.move rfl) ?_
                refine OW.val rfl rfl (EX.move rfl) ?_
                refine OW.val rfl rfl (EX.lenS Tryz.underlying9 rfl) ?_
                refine OW.val rfl rfl (by first | exact EX.subN (a := 489) (m := 9223372036854775807) rfl rfl rfl (by omega) | exact EX.subZ (m := 9223372036854775807) rfl rfl rfl rfl (by omega)) ?_
                refine OW.call rfl rfl rfl (repeat_c (489 - data.length) (by omega) wr) ?_
                rintro _ w2 ⟨rfl, hx2⟩
                refine OW.val rfl rfl (EX.addS rfl rfl (by first | omega | (simp only [List.length_append, List.length_cons, List.length_nil, List.length_take, List.length_drop, List.length_replicate]; omega))) ?_
                refine OW.val rfl rfl (EX.addS rfl rfl (by first | omega | (simp only [List.length_append, List.length_cons, List.length_nil, List.length_take, List.length_drop, List.length_replicate]; omega))) ?_
                refine OW.val rfl rfl (EX.assign rfl) ?_
                refine OW.nil ?_
                refine KW.seq (KW.region ?_)
                refine OW.val rfl rfl (EX.move rfl) ?_
                refine OW.val rfl rfl (EX.move rfl) ?_
                have hbody : head kind g ix data.length ++ (data ++ List.replicate (489 - data.length) 0) = body kind g ix data := rfl
                rw [hbody]
                have hbl := body_length kind g ix data (by omega)
                have hcl := cieee_lt (body kind g ix data)
                have lc := be_length 4 (cieee (body kind g ix data))
                refine OW.call rfl rfl rfl (ieee_s (body kind g ix data) (by omega) w2) ?_
                rintro _ w3 ⟨rfl, hx3⟩
                refine OW.val rfl rfl (by first | exact EX.convN (m := 18446744073709551615) Tryz.underlying68 Tryz.underlying122 rfl rfl (by omega) | exact EX.convW (m := 18446744073709551616) Tryz.underlying68 Tryz.underlying122 rfl rfl (by decide) | exact EX.convZ Tryz.underlying68 Tryz.underlying122 rfl) ?_
                refine OW.call rfl rfl rfl (number_r (cieee (body kind g ix data)) 4 (by omega) (by decide) w3) ?_
                rintro _ w4 ⟨rfl, hx4⟩
                refine OW.val rfl rfl (EX.addS rfl rfl (by first | omega | (simp only [List.length_append, List.length_cons, List.length_nil, List.length_take, List.length_drop, List.length_replicate]; omega))) ?_
                refine OW.val rfl rfl (EX.assign rfl) ?_
                refine OW.val rfl rfl (EX.assign rfl) ?_
                refine OW.nil ?_
                refine KW.ret (ret2 rfl rfl rfl ?_)
                exact ⟨rfl, ((hxr.trans hx2).trans hx3).trans hx4⟩
set_option maxRecDepth 20000 in
theorem rencode_s (kind : Nat) (hk : kind ≤ 255) (gen index : Int) (data : List UInt8) (hd : data.length ≤ 140737488355328) (w : World) :
    Ret Tryz.prog 36 [.int .u8 (kind : Int), .int .i64 gen, .int .i64 index, str data] w fun v w' => v = .tuple #[str (encodeR kind gen index data).1, .int .i64 (((encodeR kind gen index data).2 : Nat) : Int)] ∧ Ext w w' := by
  have eb : bad kind gen index data → encodeR kind gen index data = ([], 200) := fun h => by unfold encodeR; rw [if_pos h]
  refine Ret.enter Tryz.func36 rfl Tryz.ntmps36 (by kernel_rfl) rfl ?_
  refine KW.seq (KW.region ?_)
  refine OW.val rfl rfl (EX.assign rfl) ?_
  refine OW.val rfl rfl (EX.assign rfl) ?_
  refine OW.nil ?_
  refine KW.seq (KW.seq ?_)
  refine KW.region ?_
  refine OW.val rfl rfl (EX.move rfl) ?_
  refine OW.val rfl rfl (by first | exact EX.eqlN (b := 0) rfl rfl | exact EX.eqlZ rfl rfl) ?_
  refine OW.val rfl rfl (EX.move rfl) ?_
  refine OW.splitD 13 rfl (fun a1 => ?_) (fun a1 => ?_)
  · refine OW.pass rfl rfl ?_
    refine OW.pass rfl rfl ?_
    refine OW.val rfl rfl (EX.pickT rfl rfl) ?_
    refine OW.val rfl rfl (EX.move rfl) ?_
    refine OW.pass rfl rfl ?_
    refine OW.pass rfl rfl ?_
    refine OW.val rfl rfl (EX.pickT rfl rfl) ?_
    refine OW.val rfl rfl (EX.move rfl) ?_
    refine OW.pass rfl rfl ?_
    refine OW.pass rfl rfl ?_
    refine OW.val rfl rfl (EX.pickT rfl rfl) ?_
    refine OW.val rfl rfl (EX.move rfl) ?_
    refine OW.pass rfl rfl ?_
    refine OW.pass rfl rfl ?_
    refine OW.val rfl rfl (EX.pickT rfl rfl) ?_
    refine OW.val rfl rfl (EX.move rfl) ?_
    refine OW.pass rfl rfl ?_
    refine OW.pass rfl rfl ?_
    refine OW.pass rfl rfl ?_
    refine OW.val rfl rfl (EX.pickT rfl rfl) ?_
    refine OW.nil ?_
    refine KW.condT rfl (KW.seq (KW.region ?_))
    refine OW.val rfl rfl (EX.assign rfl) ?_
    refine OW.val rfl rfl (EX.assign rfl) ?_
    refine OW.nil ?_
    refine KW.ret (ret2 rfl rfl rfl ?_)
    rw [eb (.inl a1)]
    exact ⟨rfl, Ext.refl _⟩
  · refine OW.val rfl rfl (EX.move rfl) ?_
    refine OW.val rfl rfl (by first | exact EX.lssN (b := 0) rfl rfl | exact EX.lssZ rfl rfl) ?_
    refine OW.val rfl rfl (EX.pickF rfl rfl) ?_
    refine OW.val rfl rfl (EX.move rfl) ?_
    refine OW.splitD 17 rfl (fun a2 => ?_) (fun a2 => ?_)
    · refine OW.pass rfl rfl ?_
      refine OW.pass rfl rfl ?_
      refine OW.val rfl rfl (EX.pickT rfl rfl) ?_
      refine OW.val rfl rfl (EX.move rfl) ?_
      refine OW.pass rfl rfl ?_
      refine OW.pass rfl rfl ?_
      refine OW.val rfl rfl (EX.pickT rfl rfl) ?_
      refine OW.val rfl rfl (EX.move rfl) ?_
      refine OW.pass rfl rfl ?_
      refine OW.pass rfl rfl ?_
      refine OW.val rfl rfl (EX.pickT rfl rfl) ?_
      refine OW.val rfl rfl (EX.move rfl) ?_
      refine OW.pass rfl rfl ?_
      refine OW.pass rfl rfl ?_
      refine OW.pass rfl rfl ?_
      refine OW.val rfl rfl (EX.pickT rfl rfl) ?_
      refine OW.nil ?_
      refine KW.condT rfl (KW.seq (KW.region ?_))
      refine OW.val rfl rfl (EX.assign rfl) ?_
      refine OW.val rfl rfl (EX.assign rfl) ?_
      refine OW.nil ?_
      refine KW.ret (ret2 rfl rfl rfl ?_)
      rw [eb (.inr (.inl a2))]
      exact ⟨rfl, Ext.refl _⟩
    · refine OW.val rfl rfl (EX.move rfl) ?_
      refine OW.val rfl rfl (by first | exact EX.gtrN (b := 4611686018427387904) rfl rfl | exact EX.gtrZ rfl rfl) ?_
      refine OW.val rfl rfl (EX.pickF rfl rfl) ?_
      refine OW.val rfl rfl (EX.move rfl) ?_
      refine OW.splitD 21 rfl (fun a3 => ?_) (fun a3 => ?_)
      · refine OW.pass rfl rfl ?_
        refine OW.pass rfl rfl ?_
        refine OW.val rfl rfl (EX.pickT rfl rfl) ?_
        refine OW.val rfl rfl (EX.move rfl) ?_
        refine OW.pass rfl rfl ?_
        refine OW.pass rfl rfl ?_
        refine OW.val rfl rfl (EX.pickT rfl rfl) ?_
        refine OW.val rfl rfl (EX.move rfl) ?_
        refine OW.pass rfl rfl ?_
        refine OW.pass rfl rfl ?_
        refine OW.pass rfl rfl ?_
        refine OW.val rfl rfl (EX.pickT rfl rfl) ?_
        refine OW.nil ?_
        refine KW.condT rfl (KW.seq (KW.region ?_))
        refine OW.val rfl rfl (EX.assign rfl) ?_
        refine OW.val rfl rfl (EX.assign rfl) ?_
        refine OW.nil ?_
        refine KW.ret (ret2 rfl rfl rfl ?_)
        rw [eb (.inr (.inr (.inl a3)))]
        exact ⟨rfl, Ext.refl _⟩
      · refine OW.val rfl rfl (EX.move rfl) ?_
        refine OW.val rfl rfl (by first | exact EX.lssN (b := 0) rfl rfl | exact EX.lssZ rfl rfl) ?_
        refine OW.val rfl rfl (EX.pickF rfl rfl) ?_
        refine OW.val rfl rfl (EX.move rfl) ?_
        refine OW.splitD 25 rfl (fun a4 => ?_) (fun a4 => ?_)
        · refine OW.pass rfl rfl ?_
          refine OW.pass rfl rfl ?_
          refine OW.val rfl rfl (EX.pickT rfl rfl) ?_
          refine OW.val rfl rfl (EX.move rfl) ?_
          refine OW.pass rfl rfl ?_
          refine OW.pass rfl rfl ?_
          refine OW.pass rfl rfl ?_
          refine OW.val rfl rfl (EX.pickT rfl rfl) ?_
          refine OW.nil ?_
          refine KW.condT rfl (KW.seq (KW.region ?_))
          refine OW.val rfl rfl (EX.assign rfl) ?_
          refine OW.val rfl rfl (EX.assign rfl) ?_
          refine OW.nil ?_
          refine KW.ret (ret2 rfl rfl rfl ?_)
          rw [eb (.inr (.inr (.inr (.inl a4))))]
          exact ⟨rfl, Ext.refl _⟩
        · refine OW.val rfl rfl (EX.move rfl) ?_
          refine OW.val rfl rfl (by first | exact EX.gtrN (b := 2147483647) rfl rfl | exact EX.gtrZ rfl rfl) ?_
          refine OW.val rfl rfl (EX.pickF rfl rfl) ?_
          refine OW.val rfl rfl (EX.move rfl) ?_
          refine OW.splitD 29 rfl (fun a5 => ?_) (fun a5 => ?_)
          · refine OW.pass rfl rfl ?_
            refine OW.pass rfl rfl ?_
            refine OW.pass rfl rfl ?_
            refine OW.val rfl rfl (EX.pickT rfl rfl) ?_
            refine OW.nil ?_
            refine KW.condT rfl (KW.seq (KW.region ?_))
            refine OW.val rfl rfl (EX.assign rfl) ?_
            refine OW.val rfl rfl (EX.assign rfl) ?_
            refine OW.nil ?_
            refine KW.ret (ret2 rfl rfl rfl ?_)
            rw [eb (.inr (.inr (.inr (.inr (.inl a5)))))]
            exact ⟨rfl, Ext.refl _⟩
          · refine OW.val rfl rfl (EX.move rfl) ?_
            refine OW.val rfl rfl (EX.lenS Tryz.underlying9 rfl) ?_
            refine OW.val rfl rfl (by first | exact EX.gtrN (b := 486) rfl rfl | exact EX.gtrZ rfl rfl) ?_
            refine OW.val rfl rfl (EX.pickF rfl rfl) ?_
            refine OW.nil ?_
            refine KW.condD rfl (fun a6 => ?_) (fun a6 => ?_)
            · refine KW.seq (KW.region ?_)
              refine OW.val rfl rfl (EX.assign rfl) ?_
              refine OW.val rfl rfl (EX.assign rfl) ?_
              refine OW.nil ?_
              refine KW.ret (ret2 rfl rfl rfl ?_)
              rw [eb (.inr (.inr (.inr (.inr (.inr a6)))))]
              exact ⟨rfl, Ext.refl _⟩
            · refine KW.skip (KW.seq ?_)
              have e : encodeR kind gen index data = (text kind gen.toNat index.toNat data, 0) := by unfold encodeR; rw [if_neg]; rintro (h | h | h | h | h | h) <;> omega
              rw [e]
              obtain ⟨g, rfl⟩ := Int.eq_ofNat_of_zero_le (show 0 ≤ gen by omega)
              obtain ⟨ix, rfl⟩ := Int.eq_ofNat_of_zero_le (show 0 ≤ index by omega)
              have l8 := be_length 8 g
              have l4 := be_length 4 ix
              have l2 := be_length 2 data.length
              refine KW.cut1 (fun (wr : World) => Ext w wr) (fun (wr : World) => [(3, str (data)), (10, str (head kind g ix data.length ++ data))]) (fun (wr : World) => wr) ?_ ?_
              · skip
                refine KW.regionG (N := 20) (fun w' => Ext w w') (by kernel_rfl) rfl ?_
                have hS : (fun w' => Ext w w') w.drew := Ext.drew w
                refine GW.val 0 rfl (by kernel_rfl) (by kernel_rfl) (by kernel_rfl) rfl rfl hS (fun w' hS' => EX.move rfl) ?_
                refine GW.val 4 rfl (by kernel_rfl) (by kernel_rfl) (by kernel_rfl) rfl rfl hS (fun w' hS' => EX.move rfl) ?_
                refine GW.val 5 rfl (by kernel_rfl) (by kernel_rfl) (by kernel_rfl) rfl rfl hS (fun w' hS' => by first | exact EX.convN (m := 18446744073709551615) Tryz.underlying3 Tryz.underlying122 rfl rfl (by omega) | exact EX.convW (m := 18446744073709551616) Tryz.underlying3 Tryz.underlying122 rfl rfl (by decide) | exact EX.convZ Tryz.underlying3 Tryz.underlying122 rfl) ?_
                refine GW.val 8 rfl (by kernel_rfl) (by kernel_rfl) (by kernel_rfl) rfl rfl hS (fun w' hS' => EX.move rfl) ?_
                refine GW.val 9 rfl (by kernel_rfl) (by kernel_rfl) (by kernel_rfl) rfl rfl hS (fun w' hS' => by first | exact EX.convN (m := 18446744073709551615) Tryz.underlying3 Tryz.underlying122 rfl rfl (by omega) | exact EX.convW (m := 18446744073709551616) Tryz.underlying3 Tryz.underlying122 rfl rfl (by decide) | exact EX.convZ Tryz.underlying3 Tryz.underlying122 rfl) ?_
                refine GW.val 12 rfl (by kernel_rfl) (by kernel_rfl) (by kernel_rfl) rfl rfl hS (fun w' hS' => EX.move rfl) ?_
                refine GW.val 13 rfl (by kernel_rfl) (by kernel_rfl) (by kernel_rfl) rfl rfl hS (fun w' hS' => EX.lenS Tryz.underlying9 rfl) ?_
                refine GW.val 14 rfl (by kernel_rfl) (by kernel_rfl) (by kernel_rfl) rfl rfl hS (fun w' hS' => by first | exact EX.convN (m := 18446744073709551615) Tryz.underlying3 Tryz.underlying122 rfl rfl (by omega) | exact EX.convW (m := 18446744073709551616) Tryz.underlying3 Tryz.underlying122 rfl rfl (by decide) | exact EX.convZ Tryz.underlying3 Tryz.underlying122 rfl) ?_
                refine GW.val 17 rfl (by kernel_rfl) (by kernel_rfl) (by kernel_rfl) rfl rfl hS (fun w' hS' => EX.move rfl) ?_
                refine GW.two 1 6 (by kernel_rfl) ?_ ?_
                · refine GO.buildB 1 1 rfl rfl rfl Tryz.underlying54 ti5 rfl rfl rfl rfl rfl (by decide) ?_
                  rintro gb w1 hge1 h1 hx1
                  refine ⟨hS.trans hx1, fun hS => ?_⟩
                  refine GW.strong (fun w' => Ext w w' ∧ Bk w' gb 5 [.int .u8 (kind : Int)]) (fun _ h => h.1) ?_
                  replace hS := (⟨hS, h1⟩ : (fun w' => Ext w w' ∧ Bk w' gb 5 [.int .u8 (kind : Int)]) w1)
                  refine GW.val 2 rfl (by kernel_rfl) (by kernel_rfl) (by kernel_rfl) rfl rfl hS (fun w' hS' => EX.strOf Tryz.underlying54 Tryz.underlying5 Tryz.underlying9 rfl (oneB hS'.2 hk) rfl) ?_
                  refine GW.val 3 rfl (by kernel_rfl) (by kernel_rfl) (by kernel_rfl) rfl rfl hS (fun w' hS' => EX.addS (s := [75, 73, 83, 84]) rfl rfl (by first | omega | (simp only [List.length_append, List.length_cons, List.length_nil, List.length_take, List.length_drop, List.length_replicate]; omega))) ?_
                  refine GW.call 6 rfl (by kernel_rfl) rfl rfl rfl (rNumber_r g 8 (by omega) (by decide) w1) ?_
                  rintro _ w6 ⟨rfl, hx6⟩
                  refine ⟨⟨hS.1.trans hx6, hS.2.ext hx6⟩, fun hS => ?_⟩
                  refine GW.val 7 rfl (by kernel_rfl) (by kernel_rfl) (by kernel_rfl) rfl rfl hS (fun w' hS' => EX.addS rfl rfl (by first | omega | (simp only [List.length_append, List.length_cons, List.length_nil, List.length_take, List.length_drop, List.length_replicate]; omega))) ?_
                  refine GW.call 10 rfl (by kernel_rfl) rfl rfl rfl (rNumber_r ix 4 (by omega) (by decide) w6) ?_
                  rintro _ w10 ⟨rfl, hx10⟩
                  refine ⟨⟨hS.1.trans hx10, hS.2.ext hx10⟩, fun hS => ?_⟩
                  refine GW.val 11 rfl (by kernel_rfl) (by kernel_rfl) (by kernel_rfl) rfl rfl hS (fun w' hS' => EX.addS rfl rfl (by first | omega | (simp only [List.length_append, List.length_cons, List.length_nil, List.length_take, List.length_drop, List.length_replicate]; omega))) ?_
                  refine GW.call 15 rfl (by kernel_rfl) rfl rfl rfl (rNumber_r data.length 2 (by omega) (by decide) w10) ?_
                  rintro _ w15 ⟨rfl, hx15⟩
                  refine ⟨⟨hS.1.trans hx15, hS.2.ext hx15⟩, fun hS => ?_⟩
                  refine GW.val 16 rfl (by kernel_rfl) (by kernel_rfl) (by kernel_rfl) rfl rfl hS (fun w' hS' => EX.addS rfl rfl (by first | omega | (simp only [List.length_append, List.length_cons, List.length_nil, List.length_take, List.length_drop, List.length_replicate]; omega))) ?_
                  refine GW.val 18 rfl (by kernel_rfl) (by kernel_rfl) (by kernel_rfl) rfl rfl hS (fun w' hS' => EX.addS rfl rfl (by first | omega | (simp only [List.length_append, List.length_cons, List.length_nil, List.length_take, List.length_drop, List.length_replicate]; omega))) ?_
                  refine GW.val 19 rfl (by kernel_rfl) (by kernel_rfl) (by kernel_rfl) rfl rfl hS (fun w' hS' => EX.assign rfl) ?_
                  refine GW.done (by kernel_rfl) ?_
                  refine KW.meet1 w15 ⟨rfl, rfl, trivial⟩ rfl ?_
                  exact hS.1
                · refine GO.call 6 rfl rfl rfl rfl (rNumber_r g 8 (by omega) (by decide) w.drew) ?_
                  rintro _ w6 ⟨rfl, hx6⟩
                  refine ⟨hS.trans hx6, fun hS => ?_⟩
                  refine GW.two 1 10 (by kernel_rfl) ?_ ?_
                  · refine GO.buildB 1 1 rfl rfl rfl Tryz.underlying54 ti5 rfl rfl rfl rfl rfl (by decide) ?_
                    rintro gb w1 hge1 h1 hx1
                    refine ⟨hS.trans hx1, fun hS => ?_⟩
                    refine GW.strong (fun w' => Ext w w' ∧ Bk w' gb 5 [.int .u8 (kind : Int)]) (fun _ h => h.1) ?_
                    replace hS := (⟨hS, h1⟩ : (fun w' => Ext w w' ∧ Bk w' gb 5 [.int .u8 (kind : Int)]) w1)
                    refine GW.val 2 rfl (by kernel_rfl) (by kernel_rfl) (by kernel_rfl) rfl rfl hS (fun w' hS' => EX.strOf Tryz.underlying54 Tryz.underlying5 Tryz.underlying9 rfl (oneB hS'.2 hk) rfl) ?_
                    refine GW.val 3 rfl (by kernel_rfl) (by kernel_rfl) (by kernel_rfl) rfl rfl hS (fun w' hS' => EX.addS (s := [75, 73, 83, 84]) rfl rfl (by first | omega | (simp only [List.length_append, List.length_cons, List.length_nil, List.length_take, List.length_drop, List.length_replicate]; omega))) ?_
                    refine GW.val 7 rfl (by kernel_rfl) (by kernel_rfl) (by kernel_rfl) rfl rfl hS (fun w' hS' => EX.addS rfl rfl (by first | omega | (simp only [List.length_append, List.length_cons, List.length_nil, List.length_take, List.length_drop, List.length_replicate]; omega))) ?_
                    refine GW.call 10 rfl (by kernel_rfl) rfl rfl rfl (rNumber_r ix 4 (by omega) (by decide) w1) ?_
                    rintro _ w10 ⟨rfl, hx10⟩
                    refine ⟨⟨hS.1.trans hx10, hS.2.ext hx10⟩, fun hS => ?_⟩
                    refine GW.val 11 rfl (by kernel_rfl) (by kernel_rfl) (by kernel_rfl) rfl rfl hS (fun w' hS' => EX.addS rfl rfl (by first | omega | (simp only [List.length_append, List.length_cons, List.length_nil, List.length_take, List.length_drop, List.length_replicate]; omega))) ?_
                    refine GW.call 15 rfl (by kernel_rfl) rfl rfl rfl (rNumber_r data.length 2 (by omega) (by decide) w10) ?_
                    rintro _ w15 ⟨rfl, hx15⟩
                    refine ⟨⟨hS.1.trans hx15, hS.2.ext hx15⟩, fun hS => ?_⟩
                    refine GW.val 16 rfl (by kernel_rfl) (by kernel_rfl) (by kernel_rfl) rfl rfl hS (fun w' hS' => EX.addS rfl rfl (by first | omega | (simp only [List.length_append, List.length_cons, List.length_nil, List.length_take, List.length_drop, List.length_replicate]; omega))) ?_
                    refine GW.val 18 rfl (by kernel_rfl) (by kernel_rfl) (by kernel_rfl) rfl rfl hS (fun w' hS' => EX.addS rfl rfl (by first | omega | (simp only [List.length_append, List.length_cons, List.length_nil, List.length_take, List.length_drop, List.length_replicate]; omega))) ?_
                    refine GW.val 19 rfl (by kernel_rfl) (by kernel_rfl) (by kernel_rfl) rfl rfl hS (fun w' hS' => EX.assign rfl) ?_
                    refine GW.done (by kernel_rfl) ?_
                    refine KW.meet1 w15 ⟨rfl, rfl, trivial⟩ rfl ?_
                    exact hS.1
                  · refine GO.call 10 rfl rfl rfl rfl (rNumber_r ix 4 (by omega) (by decide) w6) ?_
                    rintro _ w10 ⟨rfl, hx10⟩
                    refine ⟨hS.trans hx10, fun hS => ?_⟩
                    refine GW.two 1 15 (by kernel_rfl) ?_ ?_
                    · refine GO.buildB 1 1 rfl rfl rfl Tryz.underlying54 ti5 rfl rfl rfl rfl rfl (by decide) ?_
                      rintro gb w1 hge1 h1 hx1
                      refine ⟨hS.trans hx1, fun hS => ?_⟩
                      refine GW.strong (fun w' => Ext w w' ∧ Bk w' gb 5 [.int .u8 (kind : Int)]) (fun _ h => h.1) ?_
                      replace hS := (⟨hS, h1⟩ : (fun w' => Ext w w' ∧ Bk w' gb 5 [.int .u8 (kind : Int)]) w1)
                      refine GW.val 2 rfl (by kernel_rfl) (by kernel_rfl) (by kernel_rfl) rfl rfl hS (fun w' hS' => EX.strOf Tryz.underlying54 Tryz.underlying5 Tryz.underlying9 rfl (oneB hS'.2 hk) rfl) ?_
                      refine GW.val 3 rfl (by kernel_rfl) (by kernel_rfl) (by kernel_rfl) rfl rfl hS (fun w' hS' => EX.addS (s := [75, 73, 83, 84]) rfl rfl (by first | omega | (simp only [List.length_append, List.length_cons, List.length_nil, List.length_take, List.length_drop, List.length_replicate]; omega))) ?_
                      refine GW.val 7 rfl (by kernel_rfl) (by kernel_rfl) (by kernel_rfl) rfl rfl hS (fun w' hS' => EX.addS rfl rfl (by first | omega | (simp only [List.length_append, List.length_cons, List.length_nil, List.length_take, List.length_drop, List.length_replicate]; omega))) ?_
                      refine GW.val 11 rfl (by kernel_rfl) (by kernel_rfl) (by kernel_rfl) rfl rfl hS (fun w' hS' => EX.addS rfl rfl (by first | omega | (simp only [List.length_append, List.length_cons, List.length_nil, List.length_take, List.length_drop, List.length_replicate]; omega))) ?_
                      refine GW.call 15 rfl (by kernel_rfl) rfl rfl rfl (rNumber_r data.length 2 (by omega) (by decide) w1) ?_
                      rintro _ w15 ⟨rfl, hx15⟩
                      refine ⟨⟨hS.1.trans hx15, hS.2.ext hx15⟩, fun hS => ?_⟩
                      refine GW.val 16 rfl (by kernel_rfl) (by kernel_rfl) (by kernel_rfl) rfl rfl hS (fun w' hS' => EX.addS rfl rfl (by first | omega | (simp only [List.length_append, List.length_cons, List.length_nil, List.length_take, List.length_drop, List.length_replicate]; omega))) ?_
                      refine GW.val 18 rfl (by kernel_rfl) (by kernel_rfl) (by kernel_rfl) rfl rfl hS (fun w' hS' => EX.addS rfl rfl (by first | omega | (simp only [List.length_append, List.length_cons, List.length_nil, List.length_take, List.length_drop, List.length_replicate]; omega))) ?_
                      refine GW.val 19 rfl (by kernel_rfl) (by kernel_rfl) (by kernel_rfl) rfl rfl hS (fun w' hS' => EX.assign rfl) ?_
                      refine GW.done (by kernel_rfl) ?_
                      refine KW.meet1 w15 ⟨rfl, rfl, trivial⟩ rfl ?_
                      exact hS.1
                    · refine GO.call 15 rfl rfl rfl rfl (rNumber_r data.length 2 (by omega) (by decide) w10) ?_
                      rintro _ w15 ⟨rfl, hx15⟩
                      refine ⟨hS.trans hx15, fun hS => ?_⟩
                      refine GW.buildB 1 1 rfl (by kernel_rfl) rfl rfl Tryz.underlying54 ti5 rfl rfl rfl rfl rfl (by decide) ?_
                      rintro gb w1 hge1 h1 hx1
                      refine ⟨hS.trans hx1, fun hS => ?_⟩
                      refine GW.strong (fun w' => Ext w w' ∧ Bk w' gb 5 [.int .u8 (kind : Int)]) (fun _ h => h.1) ?_
                      replace hS := (⟨hS, h1⟩ : (fun w' => Ext w w' ∧ Bk w' gb 5 [.int .u8 (kind : Int)]) w1)
                      refine GW.val 2 rfl (by kernel_rfl) (by kernel_rfl) (by kernel_rfl) rfl rfl hS (fun w' hS' => EX.strOf Tryz.underlying54 Tryz.underlying5 Tryz.underlying9 rfl (oneB hS'.2 hk) rfl) ?_
                      refine GW.val 3 rfl (by kernel_rfl) (by kernel_rfl) (by kernel_rfl) rfl rfl hS (fun w' hS' => EX.addS (s := [75, 73, 83, 84]) rfl rfl (by first | omega | (simp only [List.length_append, List.length_cons, List.length_nil, List.length_take, List.length_drop, List.length_replicate]; omega))) ?_
                      refine GW.val 7 rfl (by kernel_rfl) (by kernel_rfl) (by kernel_rfl) rfl rfl hS (fun w' hS' => EX.addS rfl rfl (by first | omega | (simp only [List.length_append, List.length_cons, List.length_nil, List.length_take, List.length_drop, List.length_replicate]; omega))) ?_
                      refine GW.val 11 rfl (by kernel_rfl) (by kernel_rfl) (by kernel_rfl) rfl rfl hS (fun w' hS' => EX.addS rfl rfl (by first | omega | (simp only [List.length_append, List.length_cons, List.length_nil, List.length_take, List.length_drop, List.length_replicate]; omega))) ?_
                      refine GW.val 16 rfl (by kernel_rfl) (by kernel_rfl) (by kernel_rfl) rfl rfl hS (fun w' hS' => EX.addS rfl rfl (by first | omega | (simp only [List.length_append, List.length_cons, List.length_nil, List.length_take, List.length_drop, List.length_replicate]; omega))) ?_
                      refine GW.val 18 rfl (by kernel_rfl) (by kernel_rfl) (by kernel_rfl) rfl rfl hS (fun w' hS' => EX.addS rfl rfl (by first | omega | (simp only [List.length_append, List.length_cons, List.length_nil, List.length_take, List.length_drop, List.length_replicate]; omega))) ?_
                      refine GW.val 19 rfl (by kernel_rfl) (by kernel_rfl) (by kernel_rfl) rfl rfl hS (fun w' hS' => EX.assign rfl) ?_
                      refine GW.done (by kernel_rfl) ?_
                      refine KW.meet1 w1 ⟨rfl, rfl, trivial⟩ rfl ?_
                      exact hS.1
              · rintro wr hxr
                have hh := head_length kind g ix data.length
                refine KW.seq (KW.block ?_)
                refine KW.loop2 (fun (j : Nat) (q : (List UInt8)) => j ≤ 489 - data.length ∧ q = head kind g ix data.length ++ data ++ List.replicate j 0) (fun (j : Nat) (q : (List UInt8)) => [(10, str (q))]) (fun (j : Nat) (q : (List UInt8)) => wr) (fun (j : Nat) (q : (List UInt8)) => 489 - data.length - j) (0) (head kind g ix data.length ++ data) ⟨rfl, trivial⟩ rfl ?_ ?_
                · exact ⟨by omega, by simp⟩
                · rintro j q ⟨hj, hq⟩
                  have hql : q.length = 19 + data.length + j := by rw [hq]; simp [hh]; omega
                  refine KW.seq (KW.seq (KW.region ?_))
                  refine OW.val rfl rfl (EX.move rfl) ?_
                  refine OW.val rfl rfl (EX.lenS Tryz.underlying9 rfl) ?_
                  refine OW.val rfl rfl (by first | exact EX.lssN (b := 508) rfl rfl | exact EX.lssZ rfl rfl) ?_
                  refine OW.nil ?_
                  refine KW.condD rfl (fun hlt => ?_) (fun hlt => ?_)
                  · refine KW.skip (KW.block (KW.region ?_))
                    refine OW.val rfl rfl (EX.move rfl) ?_
                    refine OW.val rfl rfl (EX.addS (r := [0]) rfl rfl (by first | omega | (simp only [List.length_append, List.length_cons, List.length_nil, List.length_take, List.length_drop, List.length_replicate]; omega))) ?_
                    refine OW.val rfl rfl (EX.assign rfl) ?_
                    refine OW.nil ?_
                    refine KW.leave ?_
                    refine KW.back2 (j + 1) (q ++ [0]) ⟨rfl, trivial⟩ rfl ?_ (by omega)
                    exact ⟨by omega, by rw [hq, List.append_assoc _ _ [0], ← List.replicate_succ']⟩
                  · obtain rfl : j = 489 - data.length := by omega
                    have hbody : q = body kind g ix data := by rw [hq]; unfold body head; simp only [List.append_assoc]
                    subst hbody
                    have hcl := cieee_lt (body kind g ix data)
                    have lc := be_length 4 (cieee (body kind g ix data))
                    refine KW.exit rfl (KW.seq (KW.region ?_))
                    refine OW.val rfl rfl (EX.move rfl) ?_
                    refine OW.val rfl rfl (EX.move rfl) ?_
                    refine OW.call rfl rfl rfl (rieee_c (body kind g ix data) (by omega) wr) ?_
                    rintro _ w3 ⟨rfl, hx3⟩
                    refine OW.val rfl rfl (by first | exact EX.convN (m := 18446744073709551615) Tryz.underlying68 Tryz.underlying122 rfl rfl (by omega) | exact EX.convW (m := 18446744073709551616) Tryz.underlying68 Tryz.underlying122 rfl rfl (by decide) | exact EX.convZ Tryz.underlying68 Tryz.underlying122 rfl) ?_
                    refine OW.call rfl rfl rfl (rNumber_r (cieee (body kind g ix data)) 4 (by omega) (by decide) w3) ?_
                    rintro _ w4 ⟨rfl, hx4⟩
                    refine OW.val rfl rfl (EX.addS rfl rfl (by first | omega | (simp only [List.length_append, List.length_cons, List.length_nil, List.length_take, List.length_drop, List.length_replicate]; omega))) ?_
                    refine OW.val rfl rfl (EX.assign rfl) ?_
                    refine OW.val rfl rfl (EX.assign rfl) ?_
                    refine OW.nil ?_
                    refine KW.ret (ret2 rfl rfl rfl ?_)
                    exact ⟨rfl, (hxr.trans hx3).trans hx4⟩
end Go.Proofs.YthgfdpcpbghkpaaGreatDoor
namespace Go.Proofs.YthgfdpcpbghkpaaGreatDoor
open Go.RowKit
section
variable {P : Program} {n : Nat} {σ : Sig} {w : World} {x y : Operand} {t e ty T T' : TypeId} {b o : Nat} {z v : Value} {s bs : Nat} {l : List Value}
theorem EX.buildG {fs : Array Field} {parts : Array (Nat × Operand)} {pl : List (Nat × Nat)} {ks : List Nat} {vs zs : List Value} (hu : P.underlying t = some (.struct fs)) (hi : TI P t (.agg zs.toArray) s bs) (hp : places P fs.toList = some pl)
    (hk : parts.toList.map (·.1) = ks) (hv : evs σ (parts.toList.map (·.2)) = some vs) (hf : Instr.fill (pl.toArray[·]?) zs.toArray (ks.zip vs) = some l.toArray) :
    EX P n σ (.build t parts) ty w (.agg l.toArray) w := fun A ha dst pos after g => by
  have hev := ha.evs hv
  have hpv : (parts.map fun (p : Nat × Operand) => (p.1, A.eval p.2)).toList = ks.zip vs := by
    rw [← hk, ← hev]
    simp only [Array.toList_map, List.map_map, List.zip_map']
    rfl
  have hm : (fs.mapM fun f => (do pure (f.offset, ← sizeOf f.type) : Sem (Nat × Nat))).run P w = .ok pl.toArray w := by
    have := run_places (P := P) (w := w) fs.toList pl hp
    obtain ⟨fl⟩ := fs
    rw [List.mapM_toArray, map_eq_pure_bind, Sem.run_bind, this]
    rfl
  simp only [execOp, Instr.build, Sem.run_bind, run_zeroValue hi, Result.andThen_ok, run_underlying hu, hm]
  rw [show (parts.map fun (x : Nat × Operand) => match x with | (i, x) => (i, A.eval x)).toList = ks.zip vs from hpv]
  rw [show ((Value.agg zs.toArray).cells) = zs.toArray from rfl, hf]
  rfl
inductive FEqs (P : Program) (w : World) (xs ys : List Value) : List Field → List Bool → Prop
  | nil : FEqs P w xs ys [] []
  | cons {f : Field} {fs : List Field} {q : Bool} {qs : List Bool} {u v : Value} {d : TypeDesc} (hn : f.name ≠ "_") (hd : P.underlying f.type = some d) (hfl : flat d = true) (hx : xs[f.offset]? = some u) (hy : ys[f.offset]? = some v)
      (he : ∀ k, (Op.equalIn (k + 1) f.type u v).run P w = .ok q w) (hr : FEqs P w xs ys fs qs) : FEqs P w xs ys (f :: fs) (q :: qs)
theorem FEqs.run {xs ys : List Value} (k : Nat) : ∀ {fs : List Field} {qs : List Bool}, FEqs P w xs ys fs qs → (Op.eqFields (k + 1) xs.toArray ys.toArray fs).run P w = .ok (qs.all id) w
  | _, _, .nil => by simp [Op.eqFields]
  | f :: fs, q :: qs, .cons (u := u) (v := v) hn hd hfl hx hy he hr => by
    have h1 : (part f.type xs.toArray f.offset).run P w = .ok u w := by simp [part, Sem.run_bind, run_isAgg hd, hfl, hx]
    have h2 : (part f.type ys.toArray f.offset).run P w = .ok v w := by simp [part, Sem.run_bind, run_isAgg hd, hfl, hy]
    have ih := FEqs.run k hr
    simp only [Op.eqFields]
    rw [if_pos hn]
    simp only [Sem.run_bind, h1, h2, he k, Result.andThen_ok]
    cases q
    · simp
    · simpa using ih
theorem eq_int {k : IntKind} {a b : Int} (h : P.underlying t = some (.int k)) (d : Nat) : (Op.equalIn (d + 1) t (.int k a) (.int k b)).run P w = .ok (decide (a = b)) w := run_equalIn_int w d t k k a b h
theorem eq_str {a b : List UInt8} (h : P.underlying t = some .string) (d : Nat) : (Op.equalIn (d + 1) t (str a) (str b)).run P w = .ok (decide (a = b)) w := by
  have := run_equalIn_string (P := P) w d t ⟨⟨a⟩⟩ ⟨⟨b⟩⟩ h
  have e : (ByteArray.toList ⟨⟨a⟩⟩ == ByteArray.toList ⟨⟨b⟩⟩) = decide (a = b) := by rw [Bool.eq_iff_iff]; simp
  rw [e] at this
  exact this
theorem EX.eqlG {fs : Array Field} {xs ys : List Value} {qs : List Bool} {r : Bool} (hu : P.underlying t = some (.struct fs)) (hp : P.stoodInHeld t = false) (hm : P.eqGuardType P.depth t = false) (hx : ev σ x = some (.agg xs.toArray)) (hy : ev σ y = some (.agg ys.toArray))
    (h : FEqs P w xs ys fs.toList qs) (hr : qs.all id = r) : EX P n σ (.binOp .eql t x y T) ty w (.bool r) w := by
  subst hr
  have hf : P.fieldsOf t = fs := by unfold Program.fieldsOf; rw [hu]
  refine EX.bin hx hy (run_eqGuard_agg w _ t x y _ _ hm) ?_
  rw [run_eql_struct, show (10000 : Nat) = 9998 + 1 + 1 from rfl, run_equalIn_agg w _ t _ _ (by rw [hf]; exact hu) hp, hf, h.run]
  rfl
theorem EX.neqG {fs : Array Field} {xs ys : List Value} {qs : List Bool} {r : Bool} (hu : P.underlying t = some (.struct fs)) (hp : P.stoodInHeld t = false) (hm : P.eqGuardType P.depth t = false) (hx : ev σ x = some (.agg xs.toArray)) (hy : ev σ y = some (.agg ys.toArray))
    (h : FEqs P w xs ys fs.toList qs) (hr : (!qs.all id) = r) : EX P n σ (.binOp .neq t x y T) ty w (.bool r) w := by
  subst hr
  have hf : P.fieldsOf t = fs := by unfold Program.fieldsOf; rw [hu]
  refine EX.bin hx hy (run_eqGuard_agg w _ t x y _ _ hm) ?_
  rw [run_neq_struct, show (10000 : Nat) = 9998 + 1 + 1 from rfl, run_equalIn_agg w _ t _ _ (by rw [hf]; exact hu) hp, hf, h.run]
  rfl
end
section
variable {P : Program} {fn : Func} {Q : Value → World → Prop} {n : Nat} {σ : Sig} {w : World} {k : List KI}
theorem retC2 {t u : Nat} {T T' : TypeId} {b s bs : Nat} {z x : Value} {d : TypeDesc} {l : List Value} (hs : fn.results = #[.cell t T, .tmp u]) (hu : P.underlying T = some d) (hd : flat d = false) (hi : TI P T z s bs) (hv : lk σ t = some (.pointer (some ⟨b, 0, none⟩))) (hx : lk σ u = some x)
    (hb : Bk w b T' l) (hl : l.length = s) (hq : Q (.tuple #[.agg l.toArray, x]) w) : ∀ a, Fr n σ a → bodyPost P fn (fun e w' => ∃ v, e = .returned v ∧ Q v w') .ret a w :=
  ret_of (fun a ha => by
    have h := EX.loadBk (P := P) (n := n) (σ := σ) (x := .tmp t) (ty := 0) hu hd hi hv hb hl a ha none "" #[] none
    have h1 : (loadVar T ⟨b, 0, none⟩).run P w = .ok (.agg l.toArray) w := by
      have et : a.eval (.tmp t) = .pointer (some ⟨b, 0, none⟩) := ha.ev (x := .tmp t) hv
      simp only [execOp, et, Instr.loadAt, Instr.sureAddr, Sem.run_bind, Sem.run_pure, Result.andThen_ok] at h
      cases hr : (loadVar T ⟨b, 0, none⟩).run P w with
      | ok v w' => rw [hr] at h; simpa using h
      | halt q w' => rw [hr] at h; simp at h
    rw [results_cell_tmp hs]
    have e1 := ha.val t _ hv
    have e2 := ha.val u _ hx
    simp [e1, e2, asAddr, h1]) hq
end
theorem fold_set : ∀ (vs : List Value) (i : Nat) (pre post : List Value), pre.length = i → post.length = vs.length →
    (vs.zipIdx i).foldl (fun (cs : Array Value) (x : Value × Nat) => cs.setIfInBounds (0 + x.2) x.1) (pre ++ post).toArray = (pre ++ vs).toArray
  | [], i, pre, post, _, h => by
    have : post = [] := List.eq_nil_of_length_eq_zero (by simpa using h)
    subst this
    rfl
  | v :: vs, i, pre, [], _, h => by simp at h
  | v :: vs, i, pre, p :: post, hp, h => by
    have ih := fold_set vs (i + 1) (pre ++ [v]) post (by simp [hp]) (by simpa using h)
    have hset : (pre ++ p :: post).toArray.setIfInBounds (0 + i) v = ((pre ++ [v]) ++ post).toArray := by simp [← hp]
    simp only [List.zipIdx_cons, List.foldl_cons]
    rw [hset, ih]
    simp
section
variable {P : Program} {n : Nat} {σ : Sig} {w w0 : World} {x y : Operand} {t e ty ty1 : TypeId} {s bs : Nat} {R : Act → World → Prop} {ops : Array Oper} {rest : List Oper} {k : List KI} {pos pos1 : String} {after after1 : Array Edge} {gd gd1 : Option (Nat × Bool)} {d d1 : Nat}
theorem EX.buildSlice1 {z : Value} {vs : List Value} (ht : P.underlying t = some (.slice e)) (hi : TI P e z s bs) (hzs : z.cells.size = s) (hs0 : 0 < s) (hs : s ≤ 16777216) (hy : ev σ y = some (.agg vs.toArray)) (hl : vs.length = s) :
    EX P n σ (.buildSlice t 1 #[(0, y)]) ty w (.slice (some ⟨w.heap.size, 0, none⟩) 1 1) (w.alloc (.cells vs.toArray e)) := fun A ha dst pos after g => by
  have hev := ha.ev hy
  have hn : ¬ (1 * s > 2 ^ 24) := by omega
  have hn0 : ¬ (1 * s = 0) := by omega
  generalize hzz : ((Array.range (1 * s)).map fun j => z.cells[j % z.cells.size]!) = zz
  have hzl : zz.size = s := by rw [← hzz]; simp
  have hf : Instr.fill (fun i => some (i * s, s)) zz [(0, .agg vs.toArray)] = some vs.toArray := by
    obtain ⟨zl⟩ := zz
    have hzl' : zl.length = s := by simpa using hzl
    have h1 := fold_set vs 0 [] zl rfl (by omega)
    simp only [List.nil_append] at h1
    simp only [Instr.fill, Value.cells, Nat.zero_mul, List.size_toArray]
    have hn2 : ¬ (vs.length ≠ s ∨ 0 + vs.length > zl.length) := by omega
    simp only [ne_eq, Bool.or_eq_true, decide_eq_true_eq]
    rw [if_neg (by simpa using hn2)]
    have h2 : vs.toArray.zipIdx.foldl (fun (cs : Array Value) (x : Value × Nat) => cs.setIfInBounds (0 + x.2) x.1) zl.toArray = vs.toArray := by
      rw [← Array.foldl_toList, Array.toList_zipIdx]
      exact h1
    exact congrArg some h2
  simp only [execOp, Sem.run_bind]
  have hb : (Instr.buildSlice t 1 (#[(0, y)].map fun (x : Nat × Operand) => (x.1, A.eval x.2))).run P w = .ok (.slice (some ⟨w.heap.size, 0, none⟩) 1 1) (w.alloc (.cells vs.toArray e)) := by
    have hp : (#[(0, y)].map fun (x : Nat × Operand) => (x.1, A.eval x.2)) = #[(0, Value.agg vs.toArray)] := by simp [hev]
    rw [hp]
    simp only [Instr.buildSlice, Sem.run_bind, run_underlying ht, run_sizeOf hi, Result.andThen_ok, if_neg hn, if_neg hn0, Sem.run_pure, run_zeroValue hi, hzz, hf]
    simp [newRow, newObj, Sem.run_bind, Sem.run]
  rw [show (#[(0, y)].map fun (x : Nat × Operand) => match x with | (i, x) => (i, A.eval x)) = (#[(0, y)].map fun (x : Nat × Operand) => (x.1, A.eval x.2)) from rfl, hb]
  rfl
theorem OW.pushS {z : Value} (hg1 : wantS ops σ gd1 = some true) (hd1 : Nat.blt d1 n = true) (hg : ∀ u, wantS ops ((d1, u) :: σ) gd = some true) (hd : Nat.blt d n = true) (ht : P.underlying t = some (.slice e)) (hi : TI P e z s bs) (hzs : z.cells.size = s) (hs0 : 0 < s) (hs : s ≤ 16777216)
    {v : Value} {vs : List Value} {l : Nat} {xs : List Value} (hy : ev σ y = some (.agg vs.toArray)) (hl : vs.length = s) (hx : ∀ q, ev ((d1, q) :: σ) x = some v) (hu : vs.all (·.oneCell') = true) (hext : Ext w0 w) (hown : Own w w0.heap.size e s v l xs)
    (h63 : l + 1 ≤ maxLen) (hbytes : (l + 1) * bs ≤ 140737488355328)
    (h : ∀ q v' w', Own w' w0.heap.size e s v' (l + 1) (xs ++ vs) → Ext w0 w' → w.grownBy w' v.ownBlock → OW P R ops rest k n ((d, v') :: (d1, q) :: σ) w') :
    OW P R ops (⟨some d1, .buildSlice t 1 #[(0, y)], ty1, pos1, after1, gd1⟩ :: ⟨some d, .call { callee := .builtin .append, args := #[x, .tmp d1], argTypes := #[t, t] }, ty, pos, after, gd⟩ :: rest) k n σ w := by
  refine OW.val hg1 hd1 (EX.buildSlice1 ht hi hzs hs0 hs hy hl) ?_
  have hx1 : Ext w0 (w.alloc (.cells vs.toArray e)) := hext.trans (Ext.alloc w _)
  have hb := Bk.new w e vs
  refine OW.appendX (hg _) hd ht hi hzs hs0 (hx _) (lk_cons_same _ _ _) hx1 (hown.alloc _) (Src.of_sl ht (Sl.of_bk hb hb.lt) (by omega) (fun u hm => List.all_eq_true.1 hu u hm) hs0) h63 hbytes ?_
  intro v' w' h1 h2 h3 h4
  refine h _ v' w' h1 h2 ⟨h3.os, h3.tape, h3.output, by have := h3.size; simp at this; omega, fun j hj hne => ?_⟩
  rw [h3.block j (by simp; omega) hne]
  exact Below.heap_alloc w _ j hj
end
end Go.Proofs.YthgfdpcpbghkpaaGreatDoor
namespace Go.Proofs.YthgfdpcpbghkpaaGreatDoor
open Go.RowKit Rec
def _root_.Go.Proofs.YthgfdpcpbghkpaaGreatDoor.Rec.R.cells (x : R) : List Value := [.int .u8 (x.kind : Int), .int .i64 x.gen, .int .i64 x.index, str x.data]
theorem numI_small (s : List UInt8) (h : s.length ≤ 4) : numI s = (nb s : Int) := by
  have h1 : nb s < 256 ^ 4 := Nat.lt_of_lt_of_le (nb_lt _ s rfl) (Nat.pow_le_pow_right (by decide) h)
  unfold numI
  rw [if_pos (by omega)]
theorem dec_none {s : List UInt8} (h : ¬ (s.length = 512 ∧ nb ((s.drop 17).take 2) ≤ 486 ∧ encodeR (decR s).kind (decR s).gen (decR s).index (decR s).data = (s, 0))) : decodeR s = (R0, 200) := by
  unfold decodeR
  rw [if_neg h]
theorem dec_some {s : List UInt8} (h : s.length = 512 ∧ nb ((s.drop 17).take 2) ≤ 486 ∧ encodeR (decR s).kind (decR s).gen (decR s).index (decR s).data = (s, 0)) : decodeR s = (decR s, 0) := by
  unfold decodeR
  rw [if_pos h]
theorem enc_magic {k : Nat} {g i : Int} {d s : List UInt8} (h : encodeR k g i d = (s, 0)) : s.take 4 = [75, 73, 83, 84] := by
  unfold encodeR at h
  split at h
  · simp at h
  · simp only [Prod.mk.injEq, and_true] at h
    rw [← h]
    rfl
set_option maxRecDepth 20000 in
theorem decode_s (s : List UInt8) (w : World) :
    Ret Tryz.prog 44 [str s] w fun v w' => v = .tuple #[.agg (decodeR s).1.cells.toArray, .int .i64 (((decodeR s).2 : Nat) : Int)] ∧ Ext w w' := by
  refine Ret.enter Tryz.func44 rfl Tryz.ntmps44 (by kernel_rfl) rfl ?_
  refine KW.seq (KW.region ?_)
  refine OW.allocB (l := [.int .u8 0, .int .i64 0, .int .i64 0, str []]) rfl rfl ti94 rfl ?_
  rintro cb w1 hge1 hc1 hx1
  refine OW.val rfl rfl (EX.assign rfl) ?_
  refine OW.nil ?_
  refine KW.seq (KW.seq (KW.region ?_))
  refine OW.val rfl rfl (EX.move rfl) ?_
  refine OW.val rfl rfl (EX.lenS Tryz.underlying9 rfl) ?_
  refine OW.val rfl rfl (by first | exact EX.neqN (b := 512) rfl rfl | exact EX.neqZ rfl rfl) ?_
  refine OW.nil ?_
  refine KW.condD rfl (fun a1 => ?_) (fun a1 => ?_)
  · have e := dec_none (s := s) (fun h => a1 (by omega))
    refine KW.seq (KW.region ?_)
    refine OW.val rfl rfl (EX.buildS (pl := [(0, 1), (1, 1), (2, 1), (3, 1)]) (ks := []) (is := []) (zs := [.int .u8 0, .int .i64 0, .int .i64 0, str []]) Tryz.underlying94 ti94 (by kernel_rfl) rfl rfl rfl (by first | rfl | (simp only [List.all_cons, List.all_nil, Bool.and_true, Bool.true_and, Bool.and_eq_true, Value.oneCell']; repeat (first | assumption | exact Own.one (by assumption) | constructor))) (by simp only [setAll, List.set_cons_zero, List.set_cons_succ]; rfl)) ?_
    refine OW.storeS rfl ti94 rfl rfl rfl (by first | rfl | (simp only [List.all_cons, List.all_nil, Bool.and_true, Bool.true_and, Bool.and_eq_true, Value.oneCell']; repeat (first | assumption | exact Own.one (by assumption) | constructor))) (hc1) (by simp) ?_
    rintro w2 hb2 hm2
    refine OW.val rfl rfl (EX.assign rfl) ?_
    refine OW.nil ?_
    refine KW.ret (retC2 rfl Tryz.underlying94 rfl ti94 rfl rfl (hb2) rfl ?_)
    rw [e]
    exact ⟨rfl, below_mo hx1 hm2 hx1.size (fun k hk => by simp at hk; omega)⟩
  · have hl : s.length = 512 := by omega
    refine KW.skip (KW.seq (KW.region ?_))
    refine OW.val rfl rfl (EX.move rfl) ?_
    refine OW.val rfl rfl (EX.buildS (pl := [(0, 1)]) (ks := [0]) (is := [0]) (zs := [str []]) Tryz.underlying134 ti134 (by kernel_rfl) rfl rfl rfl (by first | rfl | (simp only [List.all_cons, List.all_nil, Bool.and_true, Bool.true_and, Bool.and_eq_true, Value.oneCell']; repeat (first | assumption | exact Own.one (by assumption) | constructor))) (by simp only [setAll, List.set_cons_zero, List.set_cons_succ]; rfl)) ?_
    refine OW.val rfl rfl (EX.buildG (pl := [(0, 1)]) (ks := [0]) (zs := [str []]) Tryz.underlying136 ti136 (by kernel_rfl) rfl rfl rfl) ?_
    refine OW.boxS rfl rfl rfl ?_
    rintro rb w3 hge3 hr3 hx3
    refine OW.val rfl rfl (EX.assign rfl) ?_
    refine OW.nil ?_
    refine KW.seq (KW.region ?_)
    refine OW.val rfl rfl (EX.move rfl) ?_
    refine OW.val rfl rfl (EX.nilCheck rfl) ?_
    refine OW.val rfl rfl (EX.fieldAddr (off := 0) Tryz.underlying136 rfl rfl ti134 rfl rfl) ?_
    have hc3 := hc1.ext hx3
    have x3 := hx1.trans hx3
    have hrw : w.heap.size ≤ rb := by have := hx1.size; omega
    refine OW.call rfl rfl rfl (take_s rb 4 s _ w3 hr3 (by omega) (by omega)) ?_
    rintro _ w4 ⟨rfl, hr4, hm4⟩
    refine OW.val rfl rfl (EX.assign rfl) ?_
    refine OW.nil ?_
    refine KW.seq ?_
    have hc4 := hc3.mo hm4 (by simp; exact hc3.ne hr3 (by decide))
    have x4 : Ext w w4 := below_mo x3 hm4 x3.size (fun k hk => by simp at hk; omega)
    have k4 : ((s.drop 4).take 1)[0]? = some (s.getD 4 0) := by simp [List.getElem?_drop, List.getD, hl]
    have d5 : (s.drop 4).drop 1 = s.drop 5 := by rw [List.drop_drop]
    have d13 : (s.drop 5).drop 8 = s.drop 13 := by rw [List.drop_drop]
    have d17 : (s.drop 13).drop 4 = s.drop 17 := by rw [List.drop_drop]
    have d19 : (s.drop 17).drop 2 = s.drop 19 := by rw [List.drop_drop]
    have ln : ∀ j, (s.drop j).length ≤ 1000000000000 := fun j => by rw [List.length_drop]; omega
    refine KW.cut2 (fun (xb : Nat) (wr : World) => Ext w wr ∧ w.heap.size ≤ xb ∧ Bk wr rb 136 [str (s.drop 17)] ∧ Bk wr cb 94 R0.cells ∧ Bk wr xb 94 [.int .u8 (((s.getD 4 0).toNat : Nat) : Int), .int .i64 (numI ((s.drop 5).take 8)), .int .i64 (numI ((s.drop 13).take 4)), str []] ∧ xb ≠ cb) (fun (xb : Nat) (wr : World) => [(0, str (s)), (2, .pointer (some ⟨cb, 0, none⟩)), (4, .pointer (some ⟨rb, 0, none⟩)), (5, str ((s.take 4))), (6, .pointer (some ⟨xb, 0, none⟩))]) (fun (xb : Nat) (wr : World) => wr) ?_ ?_
    · skip
      refine KW.regionG (N := 12) (fun w' => Ext w w') (by kernel_rfl) rfl ?_
      have hS : (fun w' => Ext w w') w4.drew := x4.trans (Ext.drew w4)
      have hr4 := hr4.ext (Ext.drew _)
      have hc4 := hc4.ext (Ext.drew _)
      refine GW.val 0 rfl (by kernel_rfl) (by kernel_rfl) (by kernel_rfl) rfl rfl hS (fun w' hS' => EX.move rfl) ?_
      refine GW.val 1 rfl (by kernel_rfl) (by kernel_rfl) (by kernel_rfl) rfl rfl hS (fun w' hS' => EX.nilCheck rfl) ?_
      refine GW.val 2 rfl (by kernel_rfl) (by kernel_rfl) (by kernel_rfl) rfl rfl hS (fun w' hS' => EX.fieldAddr (off := 0) Tryz.underlying136 rfl rfl ti134 rfl rfl) ?_
      refine GW.val 5 rfl (by kernel_rfl) (by kernel_rfl) (by kernel_rfl) rfl rfl hS (fun w' hS' => EX.move rfl) ?_
      refine GW.val 7 rfl (by kernel_rfl) (by kernel_rfl) (by kernel_rfl) rfl rfl hS (fun w' hS' => EX.move rfl) ?_
      refine GW.two 3 10 (by kernel_rfl) ?_ ?_
      · refine GO.call 3 rfl rfl rfl rfl (take_s rb 1 (s.drop 4) _ w4.drew hr4 (by omega) (ln 4)) ?_
        rintro _ w3 ⟨rfl, hb3, hm3⟩
        have hc4 := hc4.mo hm3 (by simp; exact hc4.ne hr4 (by decide))
        refine ⟨below_mo hS hm3 hS.size (fun k hk => by simp at hk; omega), fun hS => ?_⟩
        rw [d5] at hb3
        refine GW.val 4 rfl (by kernel_rfl) (by kernel_rfl) (by kernel_rfl) rfl rfl hS (fun w' hS' => EX.indexS (i := 0) Tryz.underlying9 rfl rfl k4) ?_
        refine GW.two 6 10 (by kernel_rfl) ?_ ?_
        · refine GO.call 6 rfl rfl rfl rfl (num_s rb 8 (s.drop 5) _ w3 hb3 (by omega) (ln 5)) ?_
          rintro _ w6 ⟨rfl, hb6, hm6⟩
          have hc4 := hc4.mo hm6 (by simp; exact hc4.ne hb3 (by decide))
          refine ⟨below_mo hS hm6 hS.size (fun k hk => by simp at hk; omega), fun hS => ?_⟩
          rw [d13] at hb6
          refine GW.two 8 10 (by kernel_rfl) ?_ ?_
          · refine GO.call 8 rfl rfl rfl rfl (num_s rb 4 (s.drop 13) _ w6 hb6 (by omega) (ln 13)) ?_
            rintro _ w8 ⟨rfl, hb8, hm8⟩
            have hc4 := hc4.mo hm8 (by simp; exact hc4.ne hb6 (by decide))
            refine ⟨below_mo hS hm8 hS.size (fun k hk => by simp at hk; omega), fun hS => ?_⟩
            rw [d17] at hb8
            refine GW.val 9 rfl (by kernel_rfl) (by kernel_rfl) (by kernel_rfl) rfl rfl hS (fun w' hS' => EX.buildS (pl := [(0, 1), (1, 1), (2, 1), (3, 1)]) (ks := [0, 1, 2]) (is := [0, 1, 2]) (zs := [.int .u8 0, .int .i64 0, .int .i64 0, str []]) Tryz.underlying94 ti94 (by kernel_rfl) rfl rfl rfl (by first | rfl | (simp only [List.all_cons, List.all_nil, Bool.and_true, Bool.true_and, Bool.and_eq_true, Value.oneCell']; repeat (first | assumption | exact Own.one (by assumption) | constructor))) (by simp only [setAll, List.set_cons_zero, List.set_cons_succ]; rfl)) ?_
            refine GW.allocB (l := [.int .u8 0, .int .i64 0, .int .i64 0, str []]) 10 rfl (by kernel_rfl) rfl rfl ti94 rfl ?_
            rintro xb w10 hge10 h10 hx10
            have hne : xb ≠ cb := fun q => (by have := hc4.lt; omega)
            have hxge : w.heap.size ≤ xb := (by have := hS.size; omega)
            refine ⟨hS.trans hx10, fun hS => ?_⟩
            have hc4 := hc4.ext hx10
            have hb8 := hb8.ext hx10
            refine GW.storeS 11 rfl (by kernel_rfl) rfl ti94 rfl rfl rfl (by first | rfl | (simp only [List.all_cons, List.all_nil, Bool.and_true, Bool.true_and, Bool.and_eq_true, Value.oneCell']; repeat (first | assumption | constructor))) (h10) (by simp) ?_
            rintro w11 hb11 hm11
            refine ⟨below_mo hS hm11 hS.size (fun k hk => by simp at hk; omega), fun hS => ?_⟩
            have hc4 := hc4.mo hm11 (by simp; exact Ne.symm hne)
            have hr11 := hb8.mo hm11 (by simp; exact hb8.ne h10 (by decide))
            refine GW.done (by kernel_rfl) ?_
            refine KW.meet2 xb w11 ⟨rfl, rfl, rfl, rfl, rfl, trivial⟩ rfl ?_
            exact ⟨hS, hxge, hr11, hc4, hb11, hne⟩
          · refine GO.allocB (l := [.int .u8 0, .int .i64 0, .int .i64 0, str []]) 10 rfl rfl rfl ti94 rfl ?_
            rintro xb w10 hge10 h10 hx10
            have hne : xb ≠ cb := fun q => (by have := hc4.lt; omega)
            have hxge : w.heap.size ≤ xb := (by have := hS.size; omega)
            refine ⟨hS.trans hx10, fun hS => ?_⟩
            have hc4 := hc4.ext hx10
            have hb6 := hb6.ext hx10
            refine GW.call 8 rfl (by kernel_rfl) rfl rfl rfl (num_s rb 4 (s.drop 13) _ w10 hb6 (by omega) (ln 13)) ?_
            rintro _ w8 ⟨rfl, hb8, hm8⟩
            have hc4 := hc4.mo hm8 (by simp; exact hc4.ne hb6 (by decide))
            have h10 := h10.mo hm8 (by simp; exact h10.ne hb6 (by decide))
            refine ⟨below_mo hS hm8 hS.size (fun k hk => by simp at hk; omega), fun hS => ?_⟩
            rw [d17] at hb8
            refine GW.val 9 rfl (by kernel_rfl) (by kernel_rfl) (by kernel_rfl) rfl rfl hS (fun w' hS' => EX.buildS (pl := [(0, 1), (1, 1), (2, 1), (3, 1)]) (ks := [0, 1, 2]) (is := [0, 1, 2]) (zs := [.int .u8 0, .int .i64 0, .int .i64 0, str []]) Tryz.underlying94 ti94 (by kernel_rfl) rfl rfl rfl (by first | rfl | (simp only [List.all_cons, List.all_nil, Bool.and_true, Bool.true_and, Bool.and_eq_true, Value.oneCell']; repeat (first | assumption | exact Own.one (by assumption) | constructor))) (by simp only [setAll, List.set_cons_zero, List.set_cons_succ]; rfl)) ?_
            refine GW.storeS 11 rfl (by kernel_rfl) rfl ti94 rfl rfl rfl (by first | rfl | (simp only [List.all_cons, List.all_nil, Bool.and_true, Bool.true_and, Bool.and_eq_true, Value.oneCell']; repeat (first | assumption | constructor))) (h10) (by simp) ?_
            rintro w11 hb11 hm11
            refine ⟨below_mo hS hm11 hS.size (fun k hk => by simp at hk; omega), fun hS => ?_⟩
            have hc4 := hc4.mo hm11 (by simp; exact Ne.symm hne)
            have hr11 := hb8.mo hm11 (by simp; exact hb8.ne h10 (by decide))
            refine GW.done (by kernel_rfl) ?_
            refine KW.meet2 xb w11 ⟨rfl, rfl, rfl, rfl, rfl, trivial⟩ rfl ?_
            exact ⟨hS, hxge, hr11, hc4, hb11, hne⟩
        · refine GO.allocB (l := [.int .u8 0, .int .i64 0, .int .i64 0, str []]) 10 rfl rfl rfl ti94 rfl ?_
          rintro xb w10 hge10 h10 hx10
          have hne : xb ≠ cb := fun q => (by have := hc4.lt; omega)
          have hxge : w.heap.size ≤ xb := (by have := hS.size; omega)
          refine ⟨hS.trans hx10, fun hS => ?_⟩
          have hc4 := hc4.ext hx10
          have hb3 := hb3.ext hx10
          refine GW.call 6 rfl (by kernel_rfl) rfl rfl rfl (num_s rb 8 (s.drop 5) _ w10 hb3 (by omega) (ln 5)) ?_
          rintro _ w6 ⟨rfl, hb6, hm6⟩
          have hc4 := hc4.mo hm6 (by simp; exact hc4.ne hb3 (by decide))
          have h10 := h10.mo hm6 (by simp; exact h10.ne hb3 (by decide))
          refine ⟨below_mo hS hm6 hS.size (fun k hk => by simp at hk; omega), fun hS => ?_⟩
          rw [d13] at hb6
          refine GW.call 8 rfl (by kernel_rfl) rfl rfl rfl (num_s rb 4 (s.drop 13) _ w6 hb6 (by omega) (ln 13)) ?_
          rintro _ w8 ⟨rfl, hb8, hm8⟩
          have hc4 := hc4.mo hm8 (by simp; exact hc4.ne hb6 (by decide))
          have h10 := h10.mo hm8 (by simp; exact h10.ne hb6 (by decide))
          refine ⟨below_mo hS hm8 hS.size (fun k hk => by simp at hk; omega), fun hS => ?_⟩
          rw [d17] at hb8
          refine GW.val 9 rfl (by kernel_rfl) (by kernel_rfl) (by kernel_rfl) rfl rfl hS (fun w' hS' => EX.buildS (pl := [(0, 1), (1, 1), (2, 1), (3, 1)]) (ks := [0, 1, 2]) (is := [0, 1, 2]) (zs := [.int .u8 0, .int .i64 0, .int .i64 0, str []]) Tryz.underlying94 ti94 (by kernel_rfl) rfl rfl rfl (by first | rfl | (simp only [List.all_cons, List.all_nil, Bool.and_true, Bool.true_and, Bool.and_eq_true, Value.oneCell']; repeat (first | assumption | exact Own.one (by assumption) | constructor))) (by simp only [setAll, List.set_cons_zero, List.set_cons_succ]; rfl)) ?_
          refine GW.storeS 11 rfl (by kernel_rfl) rfl ti94 rfl rfl rfl (by first | rfl | (simp only [List.all_cons, List.all_nil, Bool.and_true, Bool.true_and, Bool.and_eq_true, Value.oneCell']; repeat (first | assumption | constructor))) (h10) (by simp) ?_
          rintro w11 hb11 hm11
          refine ⟨below_mo hS hm11 hS.size (fun k hk => by simp at hk; omega), fun hS => ?_⟩
          have hc4 := hc4.mo hm11 (by simp; exact Ne.symm hne)
          have hr11 := hb8.mo hm11 (by simp; exact hb8.ne h10 (by decide))
          refine GW.done (by kernel_rfl) ?_
          refine KW.meet2 xb w11 ⟨rfl, rfl, rfl, rfl, rfl, trivial⟩ rfl ?_
          exact ⟨hS, hxge, hr11, hc4, hb11, hne⟩
      · refine GO.allocB (l := [.int .u8 0, .int .i64 0, .int .i64 0, str []]) 10 rfl rfl rfl ti94 rfl ?_
        rintro xb w10 hge10 h10 hx10
        have hne : xb ≠ cb := fun q => (by have := hc4.lt; omega)
        have hxge : w.heap.size ≤ xb := (by have := hS.size; omega)
        refine ⟨hS.trans hx10, fun hS => ?_⟩
        have hc4 := hc4.ext hx10
        have hr4 := hr4.ext hx10
        refine GW.call 3 rfl (by kernel_rfl) rfl rfl rfl (take_s rb 1 (s.drop 4) _ w10 hr4 (by omega) (ln 4)) ?_
        rintro _ w3 ⟨rfl, hb3, hm3⟩
        have hc4 := hc4.mo hm3 (by simp; exact hc4.ne hr4 (by decide))
        have h10 := h10.mo hm3 (by simp; exact h10.ne hr4 (by decide))
        refine ⟨below_mo hS hm3 hS.size (fun k hk => by simp at hk; omega), fun hS => ?_⟩
        rw [d5] at hb3
        refine GW.val 4 rfl (by kernel_rfl) (by kernel_rfl) (by kernel_rfl) rfl rfl hS (fun w' hS' => EX.indexS (i := 0) Tryz.underlying9 rfl rfl k4) ?_
        refine GW.call 6 rfl (by kernel_rfl) rfl rfl rfl (num_s rb 8 (s.drop 5) _ w3 hb3 (by omega) (ln 5)) ?_
        rintro _ w6 ⟨rfl, hb6, hm6⟩
        have hc4 := hc4.mo hm6 (by simp; exact hc4.ne hb3 (by decide))
        have h10 := h10.mo hm6 (by simp; exact h10.ne hb3 (by decide))
        refine ⟨below_mo hS hm6 hS.size (fun k hk => by simp at hk; omega), fun hS => ?_⟩
        rw [d13] at hb6
        refine GW.call 8 rfl (by kernel_rfl) rfl rfl rfl (num_s rb 4 (s.drop 13) _ w6 hb6 (by omega) (ln 13)) ?_
        rintro _ w8 ⟨rfl, hb8, hm8⟩
        have hc4 := hc4.mo hm8 (by simp; exact hc4.ne hb6 (by decide))
        have h10 := h10.mo hm8 (by simp; exact h10.ne hb6 (by decide))
        refine ⟨below_mo hS hm8 hS.size (fun k hk => by simp at hk; omega), fun hS => ?_⟩
        rw [d17] at hb8
        refine GW.val 9 rfl (by kernel_rfl) (by kernel_rfl) (by kernel_rfl) rfl rfl hS (fun w' hS' => EX.buildS (pl := [(0, 1), (1, 1), (2, 1), (3, 1)]) (ks := [0, 1, 2]) (is := [0, 1, 2]) (zs := [.int .u8 0, .int .i64 0, .int .i64 0, str []]) Tryz.underlying94 ti94 (by kernel_rfl) rfl rfl rfl (by first | rfl | (simp only [List.all_cons, List.all_nil, Bool.and_true, Bool.true_and, Bool.and_eq_true, Value.oneCell']; repeat (first | assumption | exact Own.one (by assumption) | constructor))) (by simp only [setAll, List.set_cons_zero, List.set_cons_succ]; rfl)) ?_
        refine GW.storeS 11 rfl (by kernel_rfl) rfl ti94 rfl rfl rfl (by first | rfl | (simp only [List.all_cons, List.all_nil, Bool.and_true, Bool.true_and, Bool.and_eq_true, Value.oneCell']; repeat (first | assumption | constructor))) (h10) (by simp) ?_
        rintro w11 hb11 hm11
        refine ⟨below_mo hS hm11 hS.size (fun k hk => by simp at hk; omega), fun hS => ?_⟩
        have hc4 := hc4.mo hm11 (by simp; exact Ne.symm hne)
        have hr11 := hb8.mo hm11 (by simp; exact hb8.ne h10 (by decide))
        refine GW.done (by kernel_rfl) ?_
        refine KW.meet2 xb w11 ⟨rfl, rfl, rfl, rfl, rfl, trivial⟩ rfl ?_
        exact ⟨hS, hxge, hr11, hc4, hb11, hne⟩
    · rintro xb wr ⟨x5, hxge, hr5, hc5, hb5, hne⟩
      have hn4 : numI ((s.drop 17).take 2) = ((nb ((s.drop 17).take 2) : Nat) : Int) := numI_small _ (by rw [List.length_take]; omega)
      have hlast := ln 19
      refine KW.seq (KW.region ?_)
      refine OW.val rfl rfl (EX.move rfl) ?_
      refine OW.call rfl rfl rfl (num_s rb 2 (s.drop 17) _ wr hr5 (by omega) (ln 17)) ?_
      rintro _ w6 ⟨rfl, hr6, hm6⟩
      refine OW.val rfl rfl (EX.assign rfl) ?_
      refine OW.nil ?_
      refine KW.seq (KW.seq ?_)
      rw [d19] at hr6
      rw [hn4]
      have hc6 := hc5.mo hm6 (by simp; exact hc5.ne hr5 (by decide))
      have hb6 := hb5.mo hm6 (by simp; exact hb5.ne hr5 (by decide))
      have x6 : Ext w w6 := below_mo x5 hm6 x5.size (fun k hk => by simp at hk; omega)
      generalize hn : nb ((s.drop 17).take 2) = n
      have refuse : ¬ (s.length = 512 ∧ n ≤ 486 ∧ encodeR (decR s).kind (decR s).gen (decR s).index (decR s).data = (s, 0)) → ∀ w7, Bk w7 cb 94 R0.cells → Ext w w7 → (Value.tuple #[.agg R0.cells.toArray, .int .i64 ((200 : Nat) : Int)] = Value.tuple #[.agg (decodeR s).1.cells.toArray, .int .i64 (((decodeR s).2 : Nat) : Int)] ∧ Ext w w7) := fun h w7 _ hx => by
        rw [dec_none (by rw [hn]; exact h)]
        exact ⟨rfl, hx⟩
      have hset : ∀ w7 w8, Ext w w7 → Mo w7 w8 [cb] → Ext w w8 := fun w7 w8 h1 h2 => below_mo h1 h2 h1.size (fun k hk => by simp at hk; omega)
      refine KW.region ?_
      refine OW.val rfl rfl (EX.move rfl) ?_
      refine OW.val rfl rfl (EX.neqS (r := [75, 73, 83, 84]) rfl rfl) ?_
      refine OW.val rfl rfl (EX.move rfl) ?_
      refine OW.splitD 36 rfl (fun b1 => ?_) (fun b1 => ?_)
      · refine OW.pass rfl rfl ?_
        refine OW.pass rfl rfl ?_
        refine OW.val rfl rfl (EX.pickT rfl rfl) ?_
        refine OW.nil ?_
        refine KW.condT rfl (KW.seq (KW.region ?_))
        refine OW.val rfl rfl (EX.buildS (pl := [(0, 1), (1, 1), (2, 1), (3, 1)]) (ks := []) (is := []) (zs := [.int .u8 0, .int .i64 0, .int .i64 0, str []]) Tryz.underlying94 ti94 (by kernel_rfl) rfl rfl rfl (by first | rfl | (simp only [List.all_cons, List.all_nil, Bool.and_true, Bool.true_and, Bool.and_eq_true, Value.oneCell']; repeat (first | assumption | exact Own.one (by assumption) | constructor))) (by simp only [setAll, List.set_cons_zero, List.set_cons_succ]; rfl)) ?_
        refine OW.storeS rfl ti94 rfl rfl rfl (by first | rfl | (simp only [List.all_cons, List.all_nil, Bool.and_true, Bool.true_and, Bool.and_eq_true, Value.oneCell']; repeat (first | assumption | exact Own.one (by assumption) | constructor))) (hc6) (by decide) ?_
        rintro w7 hb7 hm7
        refine OW.val rfl rfl (EX.assign rfl) ?_
        refine OW.nil ?_
        refine KW.ret (retC2 rfl Tryz.underlying94 rfl ti94 rfl rfl (hb7) rfl ?_)
        exact refuse (fun h => b1 (enc_magic h.2.2)) _ hb7 (hset _ _ x6 hm7)
      · refine OW.val rfl rfl (EX.move rfl) ?_
        refine OW.val rfl rfl (by first | exact EX.gtrN (b := 486) rfl rfl | exact EX.gtrZ rfl rfl) ?_
        refine OW.val rfl rfl (EX.pickF rfl rfl) ?_
        refine OW.nil ?_
        refine KW.condD rfl (fun b2 => ?_) (fun b2 => ?_)
        · refine KW.seq (KW.region ?_)
          refine OW.val rfl rfl (EX.buildS (pl := [(0, 1), (1, 1), (2, 1), (3, 1)]) (ks := []) (is := []) (zs := [.int .u8 0, .int .i64 0, .int .i64 0, str []]) Tryz.underlying94 ti94 (by kernel_rfl) rfl rfl rfl (by first | rfl | (simp only [List.all_cons, List.all_nil, Bool.and_true, Bool.true_and, Bool.and_eq_true, Value.oneCell']; repeat (first | assumption | exact Own.one (by assumption) | constructor))) (by simp only [setAll, List.set_cons_zero, List.set_cons_succ]; rfl)) ?_
          refine OW.storeS rfl ti94 rfl rfl rfl (by first | rfl | (simp only [List.all_cons, List.all_nil, Bool.and_true, Bool.true_and, Bool.and_eq_true, Value.oneCell']; repeat (first | assumption | exact Own.one (by assumption) | constructor))) (hc6) (by decide) ?_
          rintro w7 hb7 hm7
          refine OW.val rfl rfl (EX.assign rfl) ?_
          refine OW.nil ?_
          refine KW.ret (retC2 rfl Tryz.underlying94 rfl ti94 rfl rfl (hb7) rfl ?_)
          exact refuse (fun h => by omega) _ hb7 (hset _ _ x6 hm7)
        · refine KW.skip (KW.seq (KW.region ?_))
          refine OW.val rfl rfl (EX.move rfl) ?_
          refine OW.val rfl rfl (EX.nilCheck rfl) ?_
          refine OW.val rfl rfl (EX.fieldAddr (off := 0) Tryz.underlying136 rfl rfl ti134 rfl rfl) ?_
          refine OW.val rfl rfl (EX.move rfl) ?_
          refine OW.call rfl rfl rfl (take_s rb n (s.drop 19) _ w6 hr6 (by omega) (ln 19)) ?_
          rintro _ w7 ⟨rfl, hr7, hm7⟩
          refine OW.val rfl rfl (EX.fieldAddr (off := 3) Tryz.underlying94 rfl rfl ti9 rfl rfl) ?_
          have hc7 := hc6.mo hm7 (by simp; exact hc6.ne hr6 (by decide))
          have hb7 := hb6.mo hm7 (by simp; exact hb6.ne hr6 (by decide))
          have x7 : Ext w w7 := below_mo x6 hm7 x6.size (fun k hk => by simp at hk; omega)
          refine OW.storeB rfl ti9 rfl rfl (by first | rfl | assumption | exact Own.one (by assumption)) (hb7) (by simp) ?_
          rintro w8 hb8 hm8
          refine OW.nil ?_
          refine KW.seq (KW.seq (KW.region ?_))
          refine OW.val rfl rfl (EX.fieldAddr (off := 0) Tryz.underlying94 rfl rfl ti5 rfl rfl) ?_
          have hc8 := hc7.mo hm8 (by simp; exact Ne.symm hne)
          have x8 : Ext w w8 := below_mo x7 hm8 x7.size (fun k hk => by simp at hk; omega)
          have hdec : decR s = ⟨(s.getD 4 0).toNat, numI ((s.drop 5).take 8), numI ((s.drop 13).take 4), (s.drop 19).take n⟩ := by unfold decR; rw [hn]
          replace hb8 : Bk w8 xb 94 (decR s).cells := by rw [hdec]; exact hb8
          refine OW.val rfl rfl (EX.load Tryz.underlying5 rfl rfl (hb8.cell_of rfl)) ?_
          refine OW.val rfl rfl (EX.fieldAddr (off := 1) Tryz.underlying94 rfl rfl ti3 rfl rfl) ?_
          refine OW.val rfl rfl (EX.load Tryz.underlying3 rfl rfl (hb8.cell_of rfl)) ?_
          refine OW.val rfl rfl (EX.fieldAddr (off := 2) Tryz.underlying94 rfl rfl ti3 rfl rfl) ?_
          refine OW.val rfl rfl (EX.load Tryz.underlying3 rfl rfl (hb8.cell_of rfl)) ?_
          refine OW.val rfl rfl (EX.fieldAddr (off := 3) Tryz.underlying94 rfl rfl ti9 rfl rfl) ?_
          refine OW.val rfl rfl (EX.load Tryz.underlying9 rfl rfl (hb8.cell_of rfl)) ?_
          have hk : (decR s).kind ≤ 255 := by rw [hdec]; have := (s.getD 4 0).toNat_lt; show (s.getD 4 0).toNat ≤ 255; omega
          have hdl : (decR s).data.length ≤ 140737488355328 := by rw [hdec]; show ((s.drop 19).take n).length ≤ _; rw [List.length_take]; omega
          refine OW.call rfl rfl rfl (encode_s (decR s).kind hk (decR s).gen (decR s).index (decR s).data hdl w8) ?_
          rintro _ w9 ⟨rfl, hx9⟩
          refine OW.val rfl rfl (EX.move rfl) ?_
          refine OW.val rfl rfl (EX.extract rfl rfl) ?_
          refine OW.val rfl rfl (EX.extract rfl rfl) ?_
          refine OW.val rfl rfl (EX.assign rfl) ?_
          refine OW.val rfl rfl (EX.assign rfl) ?_
          refine OW.nil ?_
          refine KW.seq ?_
          have hc9 := hc8.ext hx9
          have hb9 := hb8.ext hx9
          have x9 := x8.trans hx9
          rcases he : encodeR (decR s).kind (decR s).gen (decR s).index (decR s).data with ⟨t, e⟩
          rw [he] at refuse
          refine KW.region ?_
          refine OW.val rfl rfl (EX.move rfl) ?_
          refine OW.val rfl rfl (by first | exact EX.neqN (b := 0) rfl rfl | exact EX.neqZ rfl rfl) ?_
          refine OW.val rfl rfl (EX.move rfl) ?_
          refine OW.splitD 61 rfl (fun g1 => ?_) (fun g1 => ?_)
          · refine OW.pass rfl rfl ?_
            refine OW.pass rfl rfl ?_
            refine OW.pass rfl rfl ?_
            refine OW.val rfl rfl (EX.pickT rfl rfl) ?_
            refine OW.nil ?_
            refine KW.condT rfl (KW.seq (KW.region ?_))
            refine OW.val rfl rfl (EX.buildS (pl := [(0, 1), (1, 1), (2, 1), (3, 1)]) (ks := []) (is := []) (zs := [.int .u8 0, .int .i64 0, .int .i64 0, str []]) Tryz.underlying94 ti94 (by kernel_rfl) rfl rfl rfl (by first | rfl | (simp only [List.all_cons, List.all_nil, Bool.and_true, Bool.true_and, Bool.and_eq_true, Value.oneCell']; repeat (first | assumption | exact Own.one (by assumption) | constructor))) (by simp only [setAll, List.set_cons_zero, List.set_cons_succ]; rfl)) ?_
            refine OW.storeS rfl ti94 rfl rfl rfl (by first | rfl | (simp only [List.all_cons, List.all_nil, Bool.and_true, Bool.true_and, Bool.and_eq_true, Value.oneCell']; repeat (first | assumption | exact Own.one (by assumption) | constructor))) (hc9) (by decide) ?_
            rintro w10 hb10 hm10
            refine OW.val rfl rfl (EX.assign rfl) ?_
            refine OW.nil ?_
            refine KW.ret (retC2 rfl Tryz.underlying94 rfl ti94 rfl rfl (hb10) rfl ?_)
            exact refuse (fun h => by have := h.2.2; simp only [Prod.mk.injEq] at this; omega) _ hb10 (hset _ _ x9 hm10)
          · refine OW.val rfl rfl (EX.move rfl) ?_
            refine OW.val rfl rfl (EX.move rfl) ?_
            refine OW.val rfl rfl (EX.neqS rfl rfl) ?_
            refine OW.val rfl rfl (EX.pickF rfl rfl) ?_
            refine OW.nil ?_
            refine KW.condD rfl (fun g2 => ?_) (fun g2 => ?_)
            · refine KW.seq (KW.region ?_)
              refine OW.val rfl rfl (EX.buildS (pl := [(0, 1), (1, 1), (2, 1), (3, 1)]) (ks := []) (is := []) (zs := [.int .u8 0, .int .i64 0, .int .i64 0, str []]) Tryz.underlying94 ti94 (by kernel_rfl) rfl rfl rfl (by first | rfl | (simp only [List.all_cons, List.all_nil, Bool.and_true, Bool.true_and, Bool.and_eq_true, Value.oneCell']; repeat (first | assumption | exact Own.one (by assumption) | constructor))) (by simp only [setAll, List.set_cons_zero, List.set_cons_succ]; rfl)) ?_
              refine OW.storeS rfl ti94 rfl rfl rfl (by first | rfl | (simp only [List.all_cons, List.all_nil, Bool.and_true, Bool.true_and, Bool.and_eq_true, Value.oneCell']; repeat (first | assumption | exact Own.one (by assumption) | constructor))) (hc9) (by decide) ?_
              rintro w10 hb10 hm10
              refine OW.val rfl rfl (EX.assign rfl) ?_
              refine OW.nil ?_
              refine KW.ret (retC2 rfl Tryz.underlying94 rfl ti94 rfl rfl (hb10) rfl ?_)
              exact refuse (fun h => by have := h.2.2; simp only [Prod.mk.injEq] at this; exact g2 this.1) _ hb10 (hset _ _ x9 hm10)
            · refine KW.skip (KW.seq (KW.region ?_))
              refine OW.val rfl rfl (EX.loadBk Tryz.underlying94 rfl ti94 rfl (hb9) (rfl)) ?_
              refine OW.storeS rfl ti94 rfl rfl rfl (by first | rfl | (simp only [List.all_cons, List.all_nil, Bool.and_true, Bool.true_and, Bool.and_eq_true, Value.oneCell']; repeat (first | assumption | exact Own.one (by assumption) | constructor))) (hc9) (Nat.le_refl _) ?_
              rintro w10 hb10 hm10
              refine OW.val rfl rfl (EX.assign rfl) ?_
              refine OW.nil ?_
              refine KW.ret (retC2 rfl Tryz.underlying94 rfl ti94 rfl rfl (hb10) rfl ?_)
              rw [dec_some ⟨hl, by rw [hn]; omega, by rw [he]; simp only [Prod.mk.injEq]; exact ⟨by simpa using g2, by omega⟩⟩]
              exact ⟨rfl, hset _ _ x9 hm10⟩
end Go.Proofs.YthgfdpcpbghkpaaGreatDoor
namespace Go.Proofs.YthgfdpcpbghkpaaGreatDoor
open Go.RowKit Rec
set_option maxRecDepth 20000 in
theorem rdecode_s (s : List UInt8) (w : World) :
    Ret Tryz.prog 46 [str s] w fun v w' => v = .tuple #[.agg (decodeR s).1.cells.toArray, .int .i64 (((decodeR s).2 : Nat) : Int)] ∧ Ext w w' := by
  refine Ret.enter Tryz.func46 rfl Tryz.ntmps46 (by kernel_rfl) rfl ?_
  refine KW.seq (KW.region ?_)
  refine OW.allocB (l := [.int .u8 0, .int .i64 0, .int .i64 0, str []]) rfl rfl ti100 rfl ?_
  rintro cb w1 hge1 hc1 hx1
  refine OW.val rfl rfl (EX.assign rfl) ?_
  refine OW.nil ?_
  refine KW.seq (KW.seq ?_)
  have hset : ∀ w7 w8, Ext w w7 → Mo w7 w8 [cb] → Ext w w8 := fun w7 w8 h1 h2 => below_mo h1 h2 h1.size (fun k hk => by simp at hk; omega)
  refine KW.region ?_
  refine OW.val rfl rfl (EX.move rfl) ?_
  refine OW.val rfl rfl (EX.lenS Tryz.underlying9 rfl) ?_
  refine OW.val rfl rfl (by first | exact EX.neqN (b := 512) rfl rfl | exact EX.neqZ rfl rfl) ?_
  refine OW.val rfl rfl (EX.move rfl) ?_
  refine OW.splitD 10 rfl (fun a1 => ?_) (fun a1 => ?_)
  · have e := dec_none (s := s) (fun h => a1 (by omega))
    refine OW.pass rfl rfl ?_
    refine OW.pass rfl rfl ?_
    refine OW.pass rfl rfl ?_
    refine OW.pass rfl rfl ?_
    refine OW.val rfl rfl (EX.pickT rfl rfl) ?_
    refine OW.nil ?_
    refine KW.condT rfl (KW.seq (KW.region ?_))
    refine OW.val rfl rfl (EX.buildS (pl := [(0, 1), (1, 1), (2, 1), (3, 1)]) (ks := []) (is := []) (zs := [.int .u8 0, .int .i64 0, .int .i64 0, str []]) Tryz.underlying100 ti100 (by kernel_rfl) rfl rfl rfl (by first | rfl | (simp only [List.all_cons, List.all_nil, Bool.and_true, Bool.true_and, Bool.and_eq_true, Value.oneCell']; repeat (first | assumption | exact Own.one (by assumption) | constructor))) (by simp only [setAll, List.set_cons_zero, List.set_cons_succ]; rfl)) ?_
    refine OW.storeS rfl ti100 rfl rfl rfl (by first | rfl | (simp only [List.all_cons, List.all_nil, Bool.and_true, Bool.true_and, Bool.and_eq_true, Value.oneCell']; repeat (first | assumption | exact Own.one (by assumption) | constructor))) (hc1) (by simp) ?_
    rintro w2 hb2 hm2
    refine OW.val rfl rfl (EX.assign rfl) ?_
    refine OW.nil ?_
    refine KW.ret (retC2 rfl Tryz.underlying100 rfl ti100 rfl rfl (hb2) rfl ?_)
    rw [e]
    exact ⟨rfl, hset _ _ hx1 hm2⟩
  · have hl : s.length = 512 := by omega
    have hn4 : numI ((s.drop 17).take 2) = ((nb ((s.drop 17).take 2) : Nat) : Int) := numI_small _ (by rw [List.length_take]; omega)
    refine OW.val rfl rfl (EX.move rfl) ?_
    refine OW.val rfl rfl (EX.sliceLH (i := 17) (j := 19) Tryz.underlying9 rfl rfl rfl (by omega)) ?_
    refine OW.call rfl rfl rfl (rnumber_s ((s.drop 17).take 2) (by rw [List.length_take]; omega) w1) ?_
    rintro _ _ ⟨rfl, rfl⟩
    refine OW.val rfl rfl (by first | exact EX.gtrN (b := 486) rfl rfl | exact EX.gtrZ rfl rfl) ?_
    refine OW.val rfl rfl (EX.pickF rfl rfl) ?_
    refine OW.nil ?_
    rw [hn4]
    refine KW.condD rfl (fun a2 => ?_) (fun a2 => ?_)
    · have e := dec_none (s := s) (fun h => by omega)
      refine KW.seq (KW.region ?_)
      refine OW.val rfl rfl (EX.buildS (pl := [(0, 1), (1, 1), (2, 1), (3, 1)]) (ks := []) (is := []) (zs := [.int .u8 0, .int .i64 0, .int .i64 0, str []]) Tryz.underlying100 ti100 (by kernel_rfl) rfl rfl rfl (by first | rfl | (simp only [List.all_cons, List.all_nil, Bool.and_true, Bool.true_and, Bool.and_eq_true, Value.oneCell']; repeat (first | assumption | exact Own.one (by assumption) | constructor))) (by simp only [setAll, List.set_cons_zero, List.set_cons_succ]; rfl)) ?_
      refine OW.storeS rfl ti100 rfl rfl rfl (by first | rfl | (simp only [List.all_cons, List.all_nil, Bool.and_true, Bool.true_and, Bool.and_eq_true, Value.oneCell']; repeat (first | assumption | exact Own.one (by assumption) | constructor))) (hc1) (by simp) ?_
      rintro w2 hb2 hm2
      refine OW.val rfl rfl (EX.assign rfl) ?_
      refine OW.nil ?_
      refine KW.ret (retC2 rfl Tryz.underlying100 rfl ti100 rfl rfl (hb2) rfl ?_)
      rw [e]
      exact ⟨rfl, hset _ _ hx1 hm2⟩
    · have l2 : ∀ j, ((s.drop 17).take j).length ≤ j := fun j => by rw [List.length_take]; omega
      refine KW.skip (KW.seq ?_)
      refine KW.cut2 (fun (xb : Nat) (wr : World) => Ext w wr ∧ w.heap.size ≤ xb ∧ Bk wr cb 100 R0.cells ∧ Bk wr xb 100 [.int .u8 (((s.getD 4 0).toNat : Nat) : Int), .int .i64 (numI ((s.drop 5).take 8)), .int .i64 (numI ((s.drop 13).take 4)), str ((s.drop 19).take (nb ((s.drop 17).take 2)))] ∧ xb ≠ cb) (fun (xb : Nat) (wr : World) => [(0, str (s)), (2, .pointer (some ⟨cb, 0, none⟩)), (4, .pointer (some ⟨xb, 0, none⟩))]) (fun (xb : Nat) (wr : World) => wr) ?_ ?_
      · have hsl : (s.drop 19).take (19 + nb ((s.drop 17).take 2) - 19) = (s.drop 19).take (nb ((s.drop 17).take 2)) := by rw [Nat.add_sub_cancel_left]
        have hk4 : s[4]? = some (s.getD 4 0) := by simp [List.getD, hl]
        refine KW.regionG (N := 17) (fun w' => Ext w w') (by kernel_rfl) rfl ?_
        have hS : (fun w' => Ext w w') w1.drew := hx1.trans (Ext.drew w1)
        have hc1 := hc1.ext (Ext.drew _)
        refine GW.val 0 rfl (by kernel_rfl) (by kernel_rfl) (by kernel_rfl) rfl rfl hS (fun w' hS' => EX.move rfl) ?_
        refine GW.val 1 rfl (by kernel_rfl) (by kernel_rfl) (by kernel_rfl) rfl rfl hS (fun w' hS' => EX.indexS (i := 4) Tryz.underlying9 rfl rfl hk4) ?_
        refine GW.val 2 rfl (by kernel_rfl) (by kernel_rfl) (by kernel_rfl) rfl rfl hS (fun w' hS' => EX.move rfl) ?_
        refine GW.val 3 rfl (by kernel_rfl) (by kernel_rfl) (by kernel_rfl) rfl rfl hS (fun w' hS' => EX.sliceLH (i := 5) (j := 13) Tryz.underlying9 rfl rfl rfl (by omega)) ?_
        refine GW.val 5 rfl (by kernel_rfl) (by kernel_rfl) (by kernel_rfl) rfl rfl hS (fun w' hS' => EX.move rfl) ?_
        refine GW.val 6 rfl (by kernel_rfl) (by kernel_rfl) (by kernel_rfl) rfl rfl hS (fun w' hS' => EX.sliceLH (i := 13) (j := 17) Tryz.underlying9 rfl rfl rfl (by omega)) ?_
        refine GW.val 8 rfl (by kernel_rfl) (by kernel_rfl) (by kernel_rfl) rfl rfl hS (fun w' hS' => EX.move rfl) ?_
        refine GW.val 9 rfl (by kernel_rfl) (by kernel_rfl) (by kernel_rfl) rfl rfl hS (fun w' hS' => EX.move rfl) ?_
        refine GW.val 10 rfl (by kernel_rfl) (by kernel_rfl) (by kernel_rfl) rfl rfl hS (fun w' hS' => EX.sliceLH (i := 17) (j := 19) Tryz.underlying9 rfl rfl rfl (by omega)) ?_
        refine GW.two 4 15 (by kernel_rfl) ?_ ?_
        · refine GO.call 4 rfl rfl rfl rfl (rnumber_s ((s.drop 5).take 8) (by rw [List.length_take]; omega) w1.drew) ?_
          rintro _ _ ⟨rfl, rfl⟩
          refine ⟨hS, fun hS => ?_⟩
          refine GW.two 7 15 (by kernel_rfl) ?_ ?_
          · refine GO.call 7 rfl rfl rfl rfl (rnumber_s ((s.drop 13).take 4) (by rw [List.length_take]; omega) w1.drew) ?_
            rintro _ _ ⟨rfl, rfl⟩
            refine ⟨hS, fun hS => ?_⟩
            refine GW.two 11 15 (by kernel_rfl) ?_ ?_
            · refine GO.call 11 rfl rfl rfl rfl ((by have := rnumber_s ((s.drop 17).take 2) (by rw [List.length_take]; omega) w1.drew; rwa [hn4] at this)) ?_
              rintro _ _ ⟨rfl, rfl⟩
              refine ⟨hS, fun hS => ?_⟩
              refine GW.val 12 rfl (by kernel_rfl) (by kernel_rfl) (by kernel_rfl) rfl rfl hS (fun w' hS' => by first | exact EX.addN (a := 19) (m := 9223372036854775807) rfl rfl rfl (by omega) | exact EX.addZ (m := 9223372036854775807) rfl rfl rfl rfl (by omega)) ?_
              refine GW.val 13 rfl (by kernel_rfl) (by kernel_rfl) (by kernel_rfl) rfl rfl hS (fun w' hS' => EX.sliceLH (i := 19) Tryz.underlying9 rfl rfl rfl (by omega)) ?_
              refine GW.val 14 rfl (by kernel_rfl) (by kernel_rfl) (by kernel_rfl) rfl rfl hS (fun w' hS' => EX.buildS (pl := [(0, 1), (1, 1), (2, 1), (3, 1)]) (ks := [0, 1, 2, 3]) (is := [0, 1, 2, 3]) (zs := [.int .u8 0, .int .i64 0, .int .i64 0, str []]) Tryz.underlying100 ti100 (by kernel_rfl) rfl rfl rfl (by first | rfl | (simp only [List.all_cons, List.all_nil, Bool.and_true, Bool.true_and, Bool.and_eq_true, Value.oneCell']; repeat (first | assumption | exact Own.one (by assumption) | constructor))) (by simp only [setAll, List.set_cons_zero, List.set_cons_succ]; rfl)) ?_
              refine GW.allocB (l := [.int .u8 0, .int .i64 0, .int .i64 0, str []]) 15 rfl (by kernel_rfl) rfl rfl ti100 rfl ?_
              rintro xb w15 hge15 h15 hx15
              have hne : xb ≠ cb := fun q => (by have := hc1.lt; omega)
              have hxge : w.heap.size ≤ xb := (by have := hS.size; omega)
              refine ⟨hS.trans hx15, fun hS => ?_⟩
              have hc1 := hc1.ext hx15
              refine GW.storeS 16 rfl (by kernel_rfl) rfl ti100 rfl rfl rfl (by first | rfl | (simp only [List.all_cons, List.all_nil, Bool.and_true, Bool.true_and, Bool.and_eq_true, Value.oneCell']; repeat (first | assumption | constructor))) (h15) (by simp) ?_
              rintro w16 hb16 hm16
              refine ⟨below_mo hS hm16 hS.size (fun k hk => by simp at hk; omega), fun hS => ?_⟩
              have hc1 := hc1.mo hm16 (by simp; exact Ne.symm hne)
              refine GW.done (by kernel_rfl) ?_
              refine KW.meet2 xb w16 ⟨rfl, rfl, rfl, trivial⟩ rfl ?_
              exact ⟨hS, hxge, hc1, by rw [← hsl]; exact hb16, hne⟩
            · refine GO.allocB (l := [.int .u8 0, .int .i64 0, .int .i64 0, str []]) 15 rfl rfl rfl ti100 rfl ?_
              rintro xb w15 hge15 h15 hx15
              have hne : xb ≠ cb := fun q => (by have := hc1.lt; omega)
              have hxge : w.heap.size ≤ xb := (by have := hS.size; omega)
              refine ⟨hS.trans hx15, fun hS => ?_⟩
              have hc1 := hc1.ext hx15
              refine GW.call 11 rfl (by kernel_rfl) rfl rfl rfl ((by have := rnumber_s ((s.drop 17).take 2) (by rw [List.length_take]; omega) w15; rwa [hn4] at this)) ?_
              rintro _ _ ⟨rfl, rfl⟩
              refine ⟨hS, fun hS => ?_⟩
              refine GW.val 12 rfl (by kernel_rfl) (by kernel_rfl) (by kernel_rfl) rfl rfl hS (fun w' hS' => by first | exact EX.addN (a := 19) (m := 9223372036854775807) rfl rfl rfl (by omega) | exact EX.addZ (m := 9223372036854775807) rfl rfl rfl rfl (by omega)) ?_
              refine GW.val 13 rfl (by kernel_rfl) (by kernel_rfl) (by kernel_rfl) rfl rfl hS (fun w' hS' => EX.sliceLH (i := 19) Tryz.underlying9 rfl rfl rfl (by omega)) ?_
              refine GW.val 14 rfl (by kernel_rfl) (by kernel_rfl) (by kernel_rfl) rfl rfl hS (fun w' hS' => EX.buildS (pl := [(0, 1), (1, 1), (2, 1), (3, 1)]) (ks := [0, 1, 2, 3]) (is := [0, 1, 2, 3]) (zs := [.int .u8 0, .int .i64 0, .int .i64 0, str []]) Tryz.underlying100 ti100 (by kernel_rfl) rfl rfl rfl (by first | rfl | (simp only [List.all_cons, List.all_nil, Bool.and_true, Bool.true_and, Bool.and_eq_true, Value.oneCell']; repeat (first | assumption | exact Own.one (by assumption) | constructor))) (by simp only [setAll, List.set_cons_zero, List.set_cons_succ]; rfl)) ?_
              refine GW.storeS 16 rfl (by kernel_rfl) rfl ti100 rfl rfl rfl (by first | rfl | (simp only [List.all_cons, List.all_nil, Bool.and_true, Bool.true_and, Bool.and_eq_true, Value.oneCell']; repeat (first | assumption | constructor))) (h15) (by simp) ?_
              rintro w16 hb16 hm16
              refine ⟨below_mo hS hm16 hS.size (fun k hk => by simp at hk; omega), fun hS => ?_⟩
              have hc1 := hc1.mo hm16 (by simp; exact Ne.symm hne)
              refine GW.done (by kernel_rfl) ?_
              refine KW.meet2 xb w16 ⟨rfl, rfl, rfl, trivial⟩ rfl ?_
              exact ⟨hS, hxge, hc1, by rw [← hsl]; exact hb16, hne⟩
          · refine GO.allocB (l := [.int .u8 0, .int .i64 0, .int .i64 0, str []]) 15 rfl rfl rfl ti100 rfl ?_
            rintro xb w15 hge15 h15 hx15
            have hne : xb ≠ cb := fun q => (by have := hc1.lt; omega)
            have hxge : w.heap.size ≤ xb := (by have := hS.size; omega)
            refine ⟨hS.trans hx15, fun hS => ?_⟩
            have hc1 := hc1.ext hx15
            refine GW.call 7 rfl (by kernel_rfl) rfl rfl rfl (rnumber_s ((s.drop 13).take 4) (by rw [List.length_take]; omega) w15) ?_
            rintro _ _ ⟨rfl, rfl⟩
            refine ⟨hS, fun hS => ?_⟩
            refine GW.call 11 rfl (by kernel_rfl) rfl rfl rfl ((by have := rnumber_s ((s.drop 17).take 2) (by rw [List.length_take]; omega) w15; rwa [hn4] at this)) ?_
            rintro _ _ ⟨rfl, rfl⟩
            refine ⟨hS, fun hS => ?_⟩
            refine GW.val 12 rfl (by kernel_rfl) (by kernel_rfl) (by kernel_rfl) rfl rfl hS (fun w' hS' => by first | exact EX.addN (a := 19) (m := 9223372036854775807) rfl rfl rfl (by omega) | exact EX.addZ (m := 9223372036854775807) rfl rfl rfl rfl (by omega)) ?_
            refine GW.val 13 rfl (by kernel_rfl) (by kernel_rfl) (by kernel_rfl) rfl rfl hS (fun w' hS' => EX.sliceLH (i := 19) Tryz.underlying9 rfl rfl rfl (by omega)) ?_
            refine GW.val 14 rfl (by kernel_rfl) (by kernel_rfl) (by kernel_rfl) rfl rfl hS (fun w' hS' => EX.buildS (pl := [(0, 1), (1, 1), (2, 1), (3, 1)]) (ks := [0, 1, 2, 3]) (is := [0, 1, 2, 3]) (zs := [.int .u8 0, .int .i64 0, .int .i64 0, str []]) Tryz.underlying100 ti100 (by kernel_rfl) rfl rfl rfl (by first | rfl | (simp only [List.all_cons, List.all_nil, Bool.and_true, Bool.true_and, Bool.and_eq_true, Value.oneCell']; repeat (first | assumption | exact Own.one (by assumption) | constructor))) (by simp only [setAll, List.set_cons_zero, List.set_cons_succ]; rfl)) ?_
            refine GW.storeS 16 rfl (by kernel_rfl) rfl ti100 rfl rfl rfl (by first | rfl | (simp only [List.all_cons, List.all_nil, Bool.and_true, Bool.true_and, Bool.and_eq_true, Value.oneCell']; repeat (first | assumption | constructor))) (h15) (by simp) ?_
            rintro w16 hb16 hm16
            refine ⟨below_mo hS hm16 hS.size (fun k hk => by simp at hk; omega), fun hS => ?_⟩
            have hc1 := hc1.mo hm16 (by simp; exact Ne.symm hne)
            refine GW.done (by kernel_rfl) ?_
            refine KW.meet2 xb w16 ⟨rfl, rfl, rfl, trivial⟩ rfl ?_
            exact ⟨hS, hxge, hc1, by rw [← hsl]; exact hb16, hne⟩
        · refine GO.allocB (l := [.int .u8 0, .int .i64 0, .int .i64 0, str []]) 15 rfl rfl rfl ti100 rfl ?_
          rintro xb w15 hge15 h15 hx15
          have hne : xb ≠ cb := fun q => (by have := hc1.lt; omega)
          have hxge : w.heap.size ≤ xb := (by have := hS.size; omega)
          refine ⟨hS.trans hx15, fun hS => ?_⟩
          have hc1 := hc1.ext hx15
          refine GW.call 4 rfl (by kernel_rfl) rfl rfl rfl (rnumber_s ((s.drop 5).take 8) (by rw [List.length_take]; omega) w15) ?_
          rintro _ _ ⟨rfl, rfl⟩
          refine ⟨hS, fun hS => ?_⟩
          refine GW.call 7 rfl (by kernel_rfl) rfl rfl rfl (rnumber_s ((s.drop 13).take 4) (by rw [List.length_take]; omega) w15) ?_
          rintro _ _ ⟨rfl, rfl⟩
          refine ⟨hS, fun hS => ?_⟩
          refine GW.call 11 rfl (by kernel_rfl) rfl rfl rfl ((by have := rnumber_s ((s.drop 17).take 2) (by rw [List.length_take]; omega) w15; rwa [hn4] at this)) ?_
          rintro _ _ ⟨rfl, rfl⟩
          refine ⟨hS, fun hS => ?_⟩
          refine GW.val 12 rfl (by kernel_rfl) (by kernel_rfl) (by kernel_rfl) rfl rfl hS (fun w' hS' => by first | exact EX.addN (a := 19) (m := 9223372036854775807) rfl rfl rfl (by omega) | exact EX.addZ (m := 9223372036854775807) rfl rfl rfl rfl (by omega)) ?_
          refine GW.val 13 rfl (by kernel_rfl) (by kernel_rfl) (by kernel_rfl) rfl rfl hS (fun w' hS' => EX.sliceLH (i := 19) Tryz.underlying9 rfl rfl rfl (by omega)) ?_
          refine GW.val 14 rfl (by kernel_rfl) (by kernel_rfl) (by kernel_rfl) rfl rfl hS (fun w' hS' => EX.buildS (pl := [(0, 1), (1, 1), (2, 1), (3, 1)]) (ks := [0, 1, 2, 3]) (is := [0, 1, 2, 3]) (zs := [.int .u8 0, .int .i64 0, .int .i64 0, str []]) Tryz.underlying100 ti100 (by kernel_rfl) rfl rfl rfl (by first | rfl | (simp only [List.all_cons, List.all_nil, Bool.and_true, Bool.true_and, Bool.and_eq_true, Value.oneCell']; repeat (first | assumption | exact Own.one (by assumption) | constructor))) (by simp only [setAll, List.set_cons_zero, List.set_cons_succ]; rfl)) ?_
          refine GW.storeS 16 rfl (by kernel_rfl) rfl ti100 rfl rfl rfl (by first | rfl | (simp only [List.all_cons, List.all_nil, Bool.and_true, Bool.true_and, Bool.and_eq_true, Value.oneCell']; repeat (first | assumption | constructor))) (h15) (by simp) ?_
          rintro w16 hb16 hm16
          refine ⟨below_mo hS hm16 hS.size (fun k hk => by simp at hk; omega), fun hS => ?_⟩
          have hc1 := hc1.mo hm16 (by simp; exact Ne.symm hne)
          refine GW.done (by kernel_rfl) ?_
          refine KW.meet2 xb w16 ⟨rfl, rfl, rfl, trivial⟩ rfl ?_
          exact ⟨hS, hxge, hc1, by rw [← hsl]; exact hb16, hne⟩
      · rintro xb wr ⟨x5, hxge, hc5, hb5, hne⟩
        generalize hn : nb ((s.drop 17).take 2) = n at a2 hb5
        have refuse : ¬ (s.length = 512 ∧ n ≤ 486 ∧ encodeR (decR s).kind (decR s).gen (decR s).index (decR s).data = (s, 0)) → ∀ w7, Bk w7 cb 100 R0.cells → Ext w w7 → (Value.tuple #[.agg R0.cells.toArray, .int .i64 ((200 : Nat) : Int)] = Value.tuple #[.agg (decodeR s).1.cells.toArray, .int .i64 (((decodeR s).2 : Nat) : Int)] ∧ Ext w w7) := fun h w7 _ hx => by
          rw [dec_none (by rw [hn]; exact h)]
          exact ⟨rfl, hx⟩
        have hdec : decR s = ⟨(s.getD 4 0).toNat, numI ((s.drop 5).take 8), numI ((s.drop 13).take 4), (s.drop 19).take n⟩ := by unfold decR; rw [hn]
        replace hb5 : Bk wr xb 100 (decR s).cells := by rw [hdec]; exact hb5
        have hk : (decR s).kind ≤ 255 := by rw [hdec]; have := (s.getD 4 0).toNat_lt; show (s.getD 4 0).toNat ≤ 255; omega
        have hdl : (decR s).data.length ≤ 140737488355328 := by rw [hdec]; show ((s.drop 19).take n).length ≤ _; rw [List.length_take]; omega
        refine KW.seq (KW.region ?_)
        refine OW.val rfl rfl (EX.fieldAddr (off := 0) Tryz.underlying100 rfl rfl ti5 rfl rfl) ?_
        refine OW.val rfl rfl (EX.load Tryz.underlying5 rfl rfl (hb5.cell_of rfl)) ?_
        refine OW.val rfl rfl (EX.fieldAddr (off := 1) Tryz.underlying100 rfl rfl ti3 rfl rfl) ?_
        refine OW.val rfl rfl (EX.load Tryz.underlying3 rfl rfl (hb5.cell_of rfl)) ?_
        refine OW.val rfl rfl (EX.fieldAddr (off := 2) Tryz.underlying100 rfl rfl ti3 rfl rfl) ?_
        refine OW.val rfl rfl (EX.load Tryz.underlying3 rfl rfl (hb5.cell_of rfl)) ?_
        refine OW.val rfl rfl (EX.fieldAddr (off := 3) Tryz.underlying100 rfl rfl ti9 rfl rfl) ?_
        refine OW.val rfl rfl (EX.load Tryz.underlying9 rfl rfl (hb5.cell_of rfl)) ?_
        refine OW.call rfl rfl rfl (rencode_s (decR s).kind hk (decR s).gen (decR s).index (decR s).data hdl wr) ?_
        rintro _ w9 ⟨rfl, hx9⟩
        refine OW.val rfl rfl (EX.move rfl) ?_
        refine OW.val rfl rfl (EX.extract rfl rfl) ?_
        refine OW.val rfl rfl (EX.extract rfl rfl) ?_
        refine OW.val rfl rfl (EX.assign rfl) ?_
        refine OW.val rfl rfl (EX.assign rfl) ?_
        refine OW.nil ?_
        refine KW.seq (KW.seq ?_)
        have hc9 := hc5.ext hx9
        have hb9 := hb5.ext hx9
        have x9 := x5.trans hx9
        rcases he : encodeR (decR s).kind (decR s).gen (decR s).index (decR s).data with ⟨t, e⟩
        rw [he] at refuse
        refine KW.region ?_
        refine OW.val rfl rfl (EX.move rfl) ?_
        refine OW.val rfl rfl (by first | exact EX.neqN (b := 0) rfl rfl | exact EX.neqZ rfl rfl) ?_
        refine OW.val rfl rfl (EX.move rfl) ?_
        refine OW.splitD 46 rfl (fun g1 => ?_) (fun g1 => ?_)
        · refine OW.pass rfl rfl ?_
          refine OW.pass rfl rfl ?_
          refine OW.pass rfl rfl ?_
          refine OW.val rfl rfl (EX.pickT rfl rfl) ?_
          refine OW.nil ?_
          refine KW.condT rfl (KW.seq (KW.region ?_))
          refine OW.val rfl rfl (EX.buildS (pl := [(0, 1), (1, 1), (2, 1), (3, 1)]) (ks := []) (is := []) (zs := [.int .u8 0, .int .i64 0, .int .i64 0, str []]) Tryz.underlying100 ti100 (by kernel_rfl) rfl rfl rfl (by first | rfl | (simp only [List.all_cons, List.all_nil, Bool.and_true, Bool.true_and, Bool.and_eq_true, Value.oneCell']; repeat (first | assumption | exact Own.one (by assumption) | constructor))) (by simp only [setAll, List.set_cons_zero, List.set_cons_succ]; rfl)) ?_
          refine OW.storeS rfl ti100 rfl rfl rfl (by first | rfl | (simp only [List.all_cons, List.all_nil, Bool.and_true, Bool.true_and, Bool.and_eq_true, Value.oneCell']; repeat (first | assumption | exact Own.one (by assumption) | constructor))) (hc9) (by decide) ?_
          rintro w10 hb10 hm10
          refine OW.val rfl rfl (EX.assign rfl) ?_
          refine OW.nil ?_
          refine KW.ret (retC2 rfl Tryz.underlying100 rfl ti100 rfl rfl (hb10) rfl ?_)
          exact refuse (fun h => by have := h.2.2; simp only [Prod.mk.injEq] at this; omega) _ hb10 (hset _ _ x9 hm10)
        · refine OW.val rfl rfl (EX.move rfl) ?_
          refine OW.val rfl rfl (EX.move rfl) ?_
          refine OW.val rfl rfl (EX.neqS rfl rfl) ?_
          refine OW.val rfl rfl (EX.pickF rfl rfl) ?_
          refine OW.nil ?_
          refine KW.condD rfl (fun g2 => ?_) (fun g2 => ?_)
          · refine KW.seq (KW.region ?_)
            refine OW.val rfl rfl (EX.buildS (pl := [(0, 1), (1, 1), (2, 1), (3, 1)]) (ks := []) (is := []) (zs := [.int .u8 0, .int .i64 0, .int .i64 0, str []]) Tryz.underlying100 ti100 (by kernel_rfl) rfl rfl rfl (by first | rfl | (simp only [List.all_cons, List.all_nil, Bool.and_true, Bool.true_and, Bool.and_eq_true, Value.oneCell']; repeat (first | assumption | exact Own.one (by assumption) | constructor))) (by simp only [setAll, List.set_cons_zero, List.set_cons_succ]; rfl)) ?_
            refine OW.storeS rfl ti100 rfl rfl rfl (by first | rfl | (simp only [List.all_cons, List.all_nil, Bool.and_true, Bool.true_and, Bool.and_eq_true, Value.oneCell']; repeat (first | assumption | exact Own.one (by assumption) | constructor))) (hc9) (by decide) ?_
            rintro w10 hb10 hm10
            refine OW.val rfl rfl (EX.assign rfl) ?_
            refine OW.nil ?_
            refine KW.ret (retC2 rfl Tryz.underlying100 rfl ti100 rfl rfl (hb10) rfl ?_)
            exact refuse (fun h => by have := h.2.2; simp only [Prod.mk.injEq] at this; exact g2 this.1) _ hb10 (hset _ _ x9 hm10)
          · refine KW.skip (KW.seq (KW.region ?_))
            refine OW.val rfl rfl (EX.loadBk Tryz.underlying100 rfl ti100 rfl (hb9) (rfl)) ?_
            refine OW.storeS rfl ti100 rfl rfl rfl (by first | rfl | (simp only [List.all_cons, List.all_nil, Bool.and_true, Bool.true_and, Bool.and_eq_true, Value.oneCell']; repeat (first | assumption | exact Own.one (by assumption) | constructor))) (hc9) (Nat.le_refl _) ?_
            rintro w10 hb10 hm10
            refine OW.val rfl rfl (EX.assign rfl) ?_
            refine OW.nil ?_
            refine KW.ret (retC2 rfl Tryz.underlying100 rfl ti100 rfl rfl (hb10) rfl ?_)
            rw [dec_some ⟨hl, by rw [hn]; omega, by rw [he]; simp only [Prod.mk.injEq]; exact ⟨by simpa using g2, by omega⟩⟩]
            exact ⟨rfl, hset _ _ x9 hm10⟩
end Go.Proofs.YthgfdpcpbghkpaaGreatDoor
namespace Go.Proofs.YthgfdpcpbghkpaaGreatDoor.Rec
open Go.Proofs.YthgfdpcpbghkpaaGreatDoor Pth
section
variable (k g i : Nat) (d : List UInt8)
def tl (k g i : Nat) (d : List UInt8) : List UInt8 := List.replicate (489 - d.length) 0 ++ be 4 (cieee (body k g i d))
theorem text_eq : text k g i d = [75, 73, 83, 84] ++ ([UInt8.ofNat k] ++ (be 8 g ++ (be 4 i ++ (be 2 d.length ++ (d ++ tl k g i d))))) := by
  unfold text tl
  rw [show body k g i d = [75, 73, 83, 84] ++ [UInt8.ofNat k] ++ be 8 g ++ be 4 i ++ be 2 d.length ++ (d ++ List.replicate (489 - d.length) 0) from rfl]
  simp only [List.append_assoc]
theorem text_drop5 : (text k g i d).drop 5 = be 8 g ++ (be 4 i ++ (be 2 d.length ++ (d ++ tl k g i d))) := by rw [text_eq]; rfl
theorem drop_more {a b : List UInt8} {s : List UInt8} {n m j : Nat} (h : s.drop n = a ++ b) (ha : a.length = m) (hj : n + m = j) : s.drop j = b := by
  rw [← hj, ← List.drop_drop, h, List.drop_left' ha]
theorem text_drop13 : (text k g i d).drop 13 = be 4 i ++ (be 2 d.length ++ (d ++ tl k g i d)) := drop_more (text_drop5 k g i d) (be_length 8 g) rfl
theorem text_drop17 : (text k g i d).drop 17 = be 2 d.length ++ (d ++ tl k g i d) := drop_more (text_drop13 k g i d) (be_length 4 i) rfl
theorem text_drop19 : (text k g i d).drop 19 = d ++ tl k g i d := drop_more (text_drop17 k g i d) (be_length 2 _) rfl
theorem text_k : (text k g i d).getD 4 0 = UInt8.ofNat k := by rw [text_eq]; rfl
end
theorem numI_be {w n : Nat} (h : n < 256 ^ w) (h2 : n < 9223372036854775808) : numI (be w n) = n := by
  unfold numI
  rw [nb_be w n h, if_pos h2]
theorem not_bad {k : Nat} {g i : Int} {d : List UInt8} (h : ¬ bad k g i d) : k ≠ 0 ∧ 0 ≤ g ∧ g ≤ 4611686018427387904 ∧ 0 ≤ i ∧ i ≤ 2147483647 ∧ d.length ≤ 486 := by
  unfold bad at h
  refine ⟨fun e => h (.inl e), ?_, ?_, ?_, ?_, ?_⟩ <;> omega
theorem decR_text {k : Nat} {g i : Int} {d : List UInt8} (hk : k ≤ 255) (h : ¬ bad k g i d) : decR (text k g.toNat i.toNat d) = ⟨k, g, i, d⟩ ∧ nb (((text k g.toNat i.toNat d).drop 17).take 2) = d.length := by
  obtain ⟨_, h1, h2, h3, h4, h5⟩ := not_bad h
  have e0 : ((text k g.toNat i.toNat d).getD 4 0).toNat = k := by rw [text_k]; simp; omega
  have e1 : numI (((text k g.toNat i.toNat d).drop 5).take 8) = g := by
    rw [text_drop5, List.take_left' (be_length _ _), numI_be (by simp only [Nat.reducePow]; omega) (by omega)]
    omega
  have e2 : numI (((text k g.toNat i.toNat d).drop 13).take 4) = i := by
    rw [text_drop13, List.take_left' (be_length _ _), numI_be (by simp only [Nat.reducePow]; omega) (by omega)]
    omega
  have e3 : nb (((text k g.toNat i.toNat d).drop 17).take 2) = d.length := by
    rw [text_drop17, List.take_left' (be_length _ _), nb_be _ _ (by simp only [Nat.reducePow]; omega)]
  refine ⟨?_, e3⟩
  unfold decR
  rw [e0, e1, e2, e3, text_drop19, List.take_left' rfl]
theorem dec_enc {k : Nat} {g i : Int} {d t : List UInt8} (hk : k ≤ 255) (h : encodeR k g i d = (t, 0)) : decodeR t = (⟨k, g, i, d⟩, 0) := by
  unfold encodeR at h
  split at h
  · simp at h
  · rename_i hb
    simp only [Prod.mk.injEq, and_true] at h
    subst h
    obtain ⟨e1, e2⟩ := decR_text hk hb
    have h5 := (not_bad hb).2.2.2.2.2
    unfold decodeR
    rw [e1, e2, if_pos]
    refine ⟨text_length _ _ _ _ h5, h5, ?_⟩
    unfold encodeR
    rw [if_neg hb]
structure M where
  path : List UInt8
  start : Int
  sectors : Int
  size : Int
  sum : Nat
  deriving DecidableEq
def mayM (m : M) : Prop := checkP m.path = 0 ∧ 30 ≤ m.start ∧ 1 ≤ m.sectors ∧ m.sectors ≤ 4096 ∧ m.start + m.sectors ≤ 4096 ∧ 0 ≤ m.size ∧ m.size ≤ 8192
instance (m : M) : Decidable (mayM m) := by unfold mayM; infer_instance
def checkM (m : M) : Nat := if mayM m then 0 else 200
def memberT (m : M) : List UInt8 := be 1 m.path.length ++ m.path ++ be 2 m.start.toNat ++ be 2 m.sectors.toNat ++ be 2 m.size.toNat ++ be 4 m.sum
def memberM (m : M) : List UInt8 × Nat := if mayM m then (memberT m, 0) else ([], 200)
theorem may_path {m : M} (h : mayM m) : m.path.length ≤ 120 ∧ m.path ≠ [] := by
  have h1 := h.1
  unfold checkP at h1
  split at h1
  · rename_i e
    unfold cleanP at e
    split at e
    · rename_i h2
      simp only [Prod.mk.injEq, and_true] at e
      rw [e] at h2
      exact ⟨h2.2.2.2, h2.2.2.1⟩
    · simp at e
  · simp at h1
theorem be_one (n : Nat) (h : n ≤ 255) : be 1 n = [UInt8.ofNat n] := by
  simp only [be, List.nil_append]
  rw [Nat.mod_eq_of_lt (by omega)]
end Go.Proofs.YthgfdpcpbghkpaaGreatDoor.Rec
namespace Go.Proofs.YthgfdpcpbghkpaaGreatDoor
open Go.RowKit Rec Pth
def _root_.Go.Proofs.YthgfdpcpbghkpaaGreatDoor.Rec.M.cells (m : M) : List Value := [str m.path, .int .i64 m.start, .int .i64 m.sectors, .int .i64 m.size, .int .u32 (m.sum : Int)]
structure _root_.Go.Proofs.YthgfdpcpbghkpaaGreatDoor.Rec.M.Ok (m : M) : Prop where
  path : m.path.length ≤ 1000000000000
  sum : m.sum ≤ 4294967295
theorem checkM_none {m : M} (h : ¬ mayM m) : checkM m = 200 := by unfold checkM; rw [if_neg h]
theorem checkM_some {m : M} (h : mayM m) : checkM m = 0 := by unfold checkM; rw [if_pos h]
theorem checkP_or (s : List UInt8) : checkP s = 0 ∨ checkP s = 140 := by unfold checkP; split <;> simp
theorem checkM_s (m : M) (hm : m.Ok) (w : World) : Ret Tryz.prog 37 [.agg m.cells.toArray] w fun v w' => v = .int .i64 ((checkM m : Nat) : Int) ∧ Ext w w' := by
  have hp := checkP_or m.path
  refine Ret.enter Tryz.func37 rfl Tryz.ntmps37 (by kernel_rfl) rfl ?_
  refine KW.seq (KW.region ?_)
  refine OW.boxS rfl rfl rfl ?_
  rintro mb w1 hge1 hm1 hx1
  refine OW.val rfl rfl (EX.assign rfl) ?_
  refine OW.nil ?_
  refine KW.seq (KW.seq ?_)
  replace hm1 : Bk w1 mb 70 m.cells := hm1
  refine KW.region ?_
  refine OW.val rfl rfl (EX.fieldAddr (off := 0) Tryz.underlying70 rfl rfl ti9 rfl rfl) ?_
  refine OW.val rfl rfl (EX.load Tryz.underlying9 rfl rfl (hm1.cell_of rfl)) ?_
  refine OW.call rfl rfl rfl (check_s m.path hm.path w1) ?_
  rintro _ w2 ⟨rfl, hx2⟩
  refine OW.val rfl rfl (by first | exact EX.neqN (b := 0) rfl rfl | exact EX.neqZ rfl rfl) ?_
  refine OW.val rfl rfl (EX.move rfl) ?_
  have hm2 := hm1.ext hx2
  refine OW.splitD 7 rfl (fun a0 => ?_) (fun a0 => ?_)
  · refine OW.pass rfl rfl ?_
    refine OW.pass rfl rfl ?_
    refine OW.pass rfl rfl ?_
    refine OW.val rfl rfl (EX.pickT rfl rfl) ?_
    refine OW.val rfl rfl (EX.move rfl) ?_
    refine OW.pass rfl rfl ?_
    refine OW.pass rfl rfl ?_
    refine OW.pass rfl rfl ?_
    refine OW.val rfl rfl (EX.pickT rfl rfl) ?_
    refine OW.val rfl rfl (EX.move rfl) ?_
    refine OW.pass rfl rfl ?_
    refine OW.pass rfl rfl ?_
    refine OW.pass rfl rfl ?_
    refine OW.val rfl rfl (EX.pickT rfl rfl) ?_
    refine OW.val rfl rfl (EX.move rfl) ?_
    refine OW.pass rfl rfl ?_
    refine OW.pass rfl rfl ?_
    refine OW.pass rfl rfl ?_
    refine OW.pass rfl rfl ?_
    refine OW.pass rfl rfl ?_
    refine OW.pass rfl rfl ?_
    refine OW.val rfl rfl (EX.pickT rfl rfl) ?_
    refine OW.val rfl rfl (EX.move rfl) ?_
    refine OW.pass rfl rfl ?_
    refine OW.pass rfl rfl ?_
    refine OW.pass rfl rfl ?_
    refine OW.val rfl rfl (EX.pickT rfl rfl) ?_
    refine OW.val rfl rfl (EX.move rfl) ?_
    refine OW.pass rfl rfl ?_
    refine OW.pass rfl rfl ?_
    refine OW.pass rfl rfl ?_
    refine OW.val rfl rfl (EX.pickT rfl rfl) ?_
    refine OW.nil ?_
    refine KW.condT rfl (KW.seq (KW.region ?_))
    refine OW.val rfl rfl (EX.assign rfl) ?_
    refine OW.nil ?_
    refine KW.ret (ret1 rfl rfl ?_)
    rw [checkM_none (fun h => by obtain ⟨h1, h2, h3, h4, h5, h6, h7⟩ := h; omega)]
    exact ⟨rfl, hx1.trans hx2⟩
  · refine OW.val rfl rfl (EX.fieldAddr (off := 1) Tryz.underlying70 rfl rfl ti3 rfl rfl) ?_
    refine OW.val rfl rfl (EX.load Tryz.underlying3 rfl rfl (hm2.cell_of rfl)) ?_
    refine OW.val rfl rfl (by first | exact EX.lssN (b := 30) rfl rfl | exact EX.lssZ rfl rfl) ?_
    refine OW.val rfl rfl (EX.pickF rfl rfl) ?_
    refine OW.val rfl rfl (EX.move rfl) ?_
    refine OW.splitD 12 rfl (fun a1 => ?_) (fun a1 => ?_)
    · refine OW.pass rfl rfl ?_
      refine OW.pass rfl rfl ?_
      refine OW.pass rfl rfl ?_
      refine OW.val rfl rfl (EX.pickT rfl rfl) ?_
      refine OW.val rfl rfl (EX.move rfl) ?_
      refine OW.pass rfl rfl ?_
      refine OW.pass rfl rfl ?_
      refine OW.pass rfl rfl ?_
      refine OW.val rfl rfl (EX.pickT rfl rfl) ?_
      refine OW.val rfl rfl (EX.move rfl) ?_
      refine OW.pass rfl rfl ?_
      refine OW.pass rfl rfl ?_
      refine OW.pass rfl rfl ?_
      refine OW.pass rfl rfl ?_
      refine OW.pass rfl rfl ?_
      refine OW.pass rfl rfl ?_
      refine OW.val rfl rfl (EX.pickT rfl rfl) ?_
      refine OW.val rfl rfl (EX.move rfl) ?_
      refine OW.pass rfl rfl ?_
      refine OW.pass rfl rfl ?_
      refine OW.pass rfl rfl ?_
      refine OW.val rfl rfl (EX.pickT rfl rfl) ?_
      refine OW.val rfl rfl (EX.move rfl) ?_
      refine OW.pass rfl rfl ?_
      refine OW.pass rfl rfl ?_
      refine OW.pass rfl rfl ?_
      refine OW.val rfl rfl (EX.pickT rfl rfl) ?_
      refine OW.nil ?_
      refine KW.condT rfl (KW.seq (KW.region ?_))
      refine OW.val rfl rfl (EX.assign rfl) ?_
      refine OW.nil ?_
      refine KW.ret (ret1 rfl rfl ?_)
      rw [checkM_none (fun h => by obtain ⟨h1, h2, h3, h4, h5, h6, h7⟩ := h; omega)]
      exact ⟨rfl, hx1.trans hx2⟩
    · refine OW.val rfl rfl (EX.fieldAddr (off := 2) Tryz.underlying70 rfl rfl ti3 rfl rfl) ?_
      refine OW.val rfl rfl (EX.load Tryz.underlying3 rfl rfl (hm2.cell_of rfl)) ?_
      refine OW.val rfl rfl (by first | exact EX.lssN (b := 1) rfl rfl | exact EX.lssZ rfl rfl) ?_
      refine OW.val rfl rfl (EX.pickF rfl rfl) ?_
      refine OW.val rfl rfl (EX.move rfl) ?_
      refine OW.splitD 17 rfl (fun a2 => ?_) (fun a2 => ?_)
      · refine OW.pass rfl rfl ?_
        refine OW.pass rfl rfl ?_
        refine OW.pass rfl rfl ?_
        refine OW.val rfl rfl (EX.pickT rfl rfl) ?_
        refine OW.val rfl rfl (EX.move rfl) ?_
        refine OW.pass rfl rfl ?_
        refine OW.pass rfl rfl ?_
        refine OW.pass rfl rfl ?_
        refine OW.pass rfl rfl ?_
        refine OW.pass rfl rfl ?_
        refine OW.pass rfl rfl ?_
        refine OW.val rfl rfl (EX.pickT rfl rfl) ?_
        refine OW.val rfl rfl (EX.move rfl) ?_
        refine OW.pass rfl rfl ?_
        refine OW.pass rfl rfl ?_
        refine OW.pass rfl rfl ?_
        refine OW.val rfl rfl (EX.pickT rfl rfl) ?_
        refine OW.val rfl rfl (EX.move rfl) ?_
        refine OW.pass rfl rfl ?_
        refine OW.pass rfl rfl ?_
        refine OW.pass rfl rfl ?_
        refine OW.val rfl rfl (EX.pickT rfl rfl) ?_
        refine OW.nil ?_
        refine KW.condT rfl (KW.seq (KW.region ?_))
        refine OW.val rfl rfl (EX.assign rfl) ?_
        refine OW.nil ?_
        refine KW.ret (ret1 rfl rfl ?_)
        rw [checkM_none (fun h => by obtain ⟨h1, h2, h3, h4, h5, h6, h7⟩ := h; omega)]
        exact ⟨rfl, hx1.trans hx2⟩
      · refine OW.val rfl rfl (EX.fieldAddr (off := 2) Tryz.underlying70 rfl rfl ti3 rfl rfl) ?_
        refine OW.val rfl rfl (EX.load Tryz.underlying3 rfl rfl (hm2.cell_of rfl)) ?_
        refine OW.val rfl rfl (by first | exact EX.gtrN (b := 4096) rfl rfl | exact EX.gtrZ rfl rfl) ?_
        refine OW.val rfl rfl (EX.pickF rfl rfl) ?_
        refine OW.val rfl rfl (EX.move rfl) ?_
        refine OW.splitD 22 rfl (fun a3 => ?_) (fun a3 => ?_)
        · refine OW.pass rfl rfl ?_
          refine OW.pass rfl rfl ?_
          refine OW.pass rfl rfl ?_
          refine OW.pass rfl rfl ?_
          refine OW.pass rfl rfl ?_
          refine OW.pass rfl rfl ?_
          refine OW.val rfl rfl (EX.pickT rfl rfl) ?_
          refine OW.val rfl rfl (EX.move rfl) ?_
          refine OW.pass rfl rfl ?_
          refine OW.pass rfl rfl ?_
          refine OW.pass rfl rfl ?_
          refine OW.val rfl rfl (EX.pickT rfl rfl) ?_
          refine OW.val rfl rfl (EX.move rfl) ?_
          refine OW.pass rfl rfl ?_
          refine OW.pass rfl rfl ?_
          refine OW.pass rfl rfl ?_
          refine OW.val rfl rfl (EX.pickT rfl rfl) ?_
          refine OW.nil ?_
          refine KW.condT rfl (KW.seq (KW.region ?_))
          refine OW.val rfl rfl (EX.assign rfl) ?_
          refine OW.nil ?_
          refine KW.ret (ret1 rfl rfl ?_)
          rw [checkM_none (fun h => by obtain ⟨h1, h2, h3, h4, h5, h6, h7⟩ := h; omega)]
          exact ⟨rfl, hx1.trans hx2⟩
        · refine OW.val rfl rfl (EX.fieldAddr (off := 1) Tryz.underlying70 rfl rfl ti3 rfl rfl) ?_
          refine OW.val rfl rfl (EX.load Tryz.underlying3 rfl rfl (hm2.cell_of rfl)) ?_
          refine OW.val rfl rfl (EX.fieldAddr (off := 2) Tryz.underlying70 rfl rfl ti3 rfl rfl) ?_
          refine OW.val rfl rfl (EX.load Tryz.underlying3 rfl rfl (hm2.cell_of rfl)) ?_
          refine OW.val rfl rfl (by first | exact EX.subN (a := 4096) (m := 9223372036854775807) rfl rfl rfl (by omega) | exact EX.subZ (m := 9223372036854775807) rfl rfl rfl rfl (by omega)) ?_
          refine OW.val rfl rfl (by first | exact EX.gtrN rfl rfl | exact EX.gtrZ rfl rfl) ?_
          refine OW.val rfl rfl (EX.pickF rfl rfl) ?_
          refine OW.val rfl rfl (EX.move rfl) ?_
          refine OW.splitD 30 rfl (fun a4 => ?_) (fun a4 => ?_)
          · refine OW.pass rfl rfl ?_
            refine OW.pass rfl rfl ?_
            refine OW.pass rfl rfl ?_
            refine OW.val rfl rfl (EX.pickT rfl rfl) ?_
            refine OW.val rfl rfl (EX.move rfl) ?_
            refine OW.pass rfl rfl ?_
            refine OW.pass rfl rfl ?_
            refine OW.pass rfl rfl ?_
            refine OW.val rfl rfl (EX.pickT rfl rfl) ?_
            refine OW.nil ?_
            refine KW.condT rfl (KW.seq (KW.region ?_))
            refine OW.val rfl rfl (EX.assign rfl) ?_
            refine OW.nil ?_
            refine KW.ret (ret1 rfl rfl ?_)
            rw [checkM_none (fun h => by obtain ⟨h1, h2, h3, h4, h5, h6, h7⟩ := h; omega)]
            exact ⟨rfl, hx1.trans hx2⟩
          · refine OW.val rfl rfl (EX.fieldAddr (off := 3) Tryz.underlying70 rfl rfl ti3 rfl rfl) ?_
            refine OW.val rfl rfl (EX.load Tryz.underlying3 rfl rfl (hm2.cell_of rfl)) ?_
            refine OW.val rfl rfl (by first | exact EX.lssN (b := 0) rfl rfl | exact EX.lssZ rfl rfl) ?_
            refine OW.val rfl rfl (EX.pickF rfl rfl) ?_
            refine OW.val rfl rfl (EX.move rfl) ?_
            refine OW.splitD 35 rfl (fun a5 => ?_) (fun a5 => ?_)
            · refine OW.pass rfl rfl ?_
              refine OW.pass rfl rfl ?_
              refine OW.pass rfl rfl ?_
              refine OW.val rfl rfl (EX.pickT rfl rfl) ?_
              refine OW.nil ?_
              refine KW.condT rfl (KW.seq (KW.region ?_))
              refine OW.val rfl rfl (EX.assign rfl) ?_
              refine OW.nil ?_
              refine KW.ret (ret1 rfl rfl ?_)
              rw [checkM_none (fun h => by obtain ⟨h1, h2, h3, h4, h5, h6, h7⟩ := h; omega)]
              exact ⟨rfl, hx1.trans hx2⟩
            · refine OW.val rfl rfl (EX.fieldAddr (off := 3) Tryz.underlying70 rfl rfl ti3 rfl rfl) ?_
              refine OW.val rfl rfl (EX.load Tryz.underlying3 rfl rfl (hm2.cell_of rfl)) ?_
              refine OW.val rfl rfl (by first | exact EX.gtrN (b := 8192) rfl rfl | exact EX.gtrZ rfl rfl) ?_
              refine OW.val rfl rfl (EX.pickF rfl rfl) ?_
              refine OW.nil ?_
              refine KW.condD rfl (fun a6 => ?_) (fun a6 => ?_)
              · refine KW.seq (KW.region ?_)
                refine OW.val rfl rfl (EX.assign rfl) ?_
                refine OW.nil ?_
                refine KW.ret (ret1 rfl rfl ?_)
                rw [checkM_none (fun h => by obtain ⟨h1, h2, h3, h4, h5, h6, h7⟩ := h; omega)]
                exact ⟨rfl, hx1.trans hx2⟩
              · refine KW.skip (KW.seq (KW.region ?_))
                refine OW.val rfl rfl (EX.assign rfl) ?_
                refine OW.nil ?_
                refine KW.ret (ret1 rfl rfl ?_)
                rw [checkM_some ⟨by omega, by omega, by omega, by omega, by omega, by omega, by omega⟩]
                exact ⟨rfl, hx1.trans hx2⟩
theorem rcheckM_s (m : M) (hm : m.Ok) (w : World) : Ret Tryz.prog 40 [.agg m.cells.toArray] w fun v w' => v = .int .i64 ((checkM m : Nat) : Int) ∧ Ext w w' := by
  have hp := checkP_or m.path
  refine Ret.enter Tryz.func40 rfl Tryz.ntmps40 (by kernel_rfl) rfl ?_
  refine KW.seq (KW.region ?_)
  refine OW.boxS rfl rfl rfl ?_
  rintro mb w1 hge1 hm1 hx1
  refine OW.val rfl rfl (EX.assign rfl) ?_
  refine OW.nil ?_
  refine KW.seq ?_
  replace hm1 : Bk w1 mb 70 m.cells := hm1
  refine KW.region ?_
  refine OW.val rfl rfl (EX.fieldAddr (off := 0) Tryz.underlying70 rfl rfl ti9 rfl rfl) ?_
  refine OW.val rfl rfl (EX.load Tryz.underlying9 rfl rfl (hm1.cell_of rfl)) ?_
  refine OW.call rfl rfl rfl (rcheck_s m.path hm.path w1) ?_
  rintro _ w2 ⟨rfl, hx2⟩
  refine OW.val rfl rfl (by first | exact EX.eqlN (b := 0) rfl rfl | exact EX.eqlZ rfl rfl) ?_
  refine OW.val rfl rfl (EX.move rfl) ?_
  have hm2 := hm1.ext hx2
  refine OW.splitD 8 rfl (fun a0 => ?_) (fun a0 => ?_)
  · refine OW.val rfl rfl (EX.fieldAddr (off := 1) Tryz.underlying70 rfl rfl ti3 rfl rfl) ?_
    refine OW.val rfl rfl (EX.load Tryz.underlying3 rfl rfl (hm2.cell_of rfl)) ?_
    refine OW.val rfl rfl (by first | exact EX.geqN (b := 30) rfl rfl | exact EX.geqZ rfl rfl) ?_
    refine OW.val rfl rfl (EX.pickT rfl rfl) ?_
    refine OW.val rfl rfl (EX.move rfl) ?_
    refine OW.splitD 13 rfl (fun a1 => ?_) (fun a1 => ?_)
    · refine OW.val rfl rfl (EX.fieldAddr (off := 1) Tryz.underlying70 rfl rfl ti3 rfl rfl) ?_
      refine OW.val rfl rfl (EX.load Tryz.underlying3 rfl rfl (hm2.cell_of rfl)) ?_
      refine OW.val rfl rfl (by first | exact EX.leqN (b := 4096) rfl rfl | exact EX.leqZ rfl rfl) ?_
      refine OW.val rfl rfl (EX.pickT rfl rfl) ?_
      refine OW.val rfl rfl (EX.move rfl) ?_
      refine OW.splitD 18 rfl (fun a2 => ?_) (fun a2 => ?_)
      · refine OW.val rfl rfl (EX.fieldAddr (off := 2) Tryz.underlying70 rfl rfl ti3 rfl rfl) ?_
        refine OW.val rfl rfl (EX.load Tryz.underlying3 rfl rfl (hm2.cell_of rfl)) ?_
        refine OW.val rfl rfl (by first | exact EX.geqN (b := 1) rfl rfl | exact EX.geqZ rfl rfl) ?_
        refine OW.val rfl rfl (EX.pickT rfl rfl) ?_
        refine OW.val rfl rfl (EX.move rfl) ?_
        refine OW.splitD 23 rfl (fun a3 => ?_) (fun a3 => ?_)
        · refine OW.val rfl rfl (EX.fieldAddr (off := 2) Tryz.underlying70 rfl rfl ti3 rfl rfl) ?_
          refine OW.val rfl rfl (EX.load Tryz.underlying3 rfl rfl (hm2.cell_of rfl)) ?_
          refine OW.val rfl rfl (by first | exact EX.leqN (b := 4096) rfl rfl | exact EX.leqZ rfl rfl) ?_
          refine OW.val rfl rfl (EX.pickT rfl rfl) ?_
          refine OW.val rfl rfl (EX.move rfl) ?_
          refine OW.splitD 28 rfl (fun a4 => ?_) (fun a4 => ?_)
          · refine OW.val rfl rfl (EX.fieldAddr (off := 3) Tryz.underlying70 rfl rfl ti3 rfl rfl) ?_
            refine OW.val rfl rfl (EX.load Tryz.underlying3 rfl rfl (hm2.cell_of rfl)) ?_
            refine OW.val rfl rfl (by first | exact EX.geqN (b := 0) rfl rfl | exact EX.geqZ rfl rfl) ?_
            refine OW.val rfl rfl (EX.pickT rfl rfl) ?_
            refine OW.val rfl rfl (EX.move rfl) ?_
            refine OW.splitD 33 rfl (fun a5 => ?_) (fun a5 => ?_)
            · refine OW.val rfl rfl (EX.fieldAddr (off := 3) Tryz.underlying70 rfl rfl ti3 rfl rfl) ?_
              refine OW.val rfl rfl (EX.load Tryz.underlying3 rfl rfl (hm2.cell_of rfl)) ?_
              refine OW.val rfl rfl (by first | exact EX.leqN (b := 8192) rfl rfl | exact EX.leqZ rfl rfl) ?_
              refine OW.val rfl rfl (EX.pickT rfl rfl) ?_
              refine OW.val rfl rfl (EX.assign rfl) ?_
              refine OW.nil ?_
              refine KW.seq (KW.seq ?_)
              by_cases a6 : m.size ≤ 8192
              · refine KW.as 3 (.bool true) rfl (congrArg Value.bool (decide_eq_true (a6))) ?_
                refine KW.region ?_
                refine OW.val rfl rfl (EX.move rfl) ?_
                refine OW.val rfl rfl (by first | exact EX.notD rfl | exact EX.notB rfl) ?_
                refine OW.val rfl rfl (EX.move rfl) ?_
                refine OW.val rfl rfl (EX.fieldAddr (off := 1) Tryz.underlying70 rfl rfl ti3 rfl rfl) ?_
                refine OW.val rfl rfl (EX.load Tryz.underlying3 rfl rfl (hm2.cell_of rfl)) ?_
                refine OW.val rfl rfl (EX.fieldAddr (off := 2) Tryz.underlying70 rfl rfl ti3 rfl rfl) ?_
                refine OW.val rfl rfl (EX.load Tryz.underlying3 rfl rfl (hm2.cell_of rfl)) ?_
                refine OW.val rfl rfl (by first | exact EX.addN (m := 9223372036854775807) rfl rfl rfl (by omega) | exact EX.addZ (m := 9223372036854775807) rfl rfl rfl rfl (by omega)) ?_
                refine OW.val rfl rfl (by first | exact EX.gtrN (b := 4096) rfl rfl | exact EX.gtrZ rfl rfl) ?_
                refine OW.val rfl rfl (EX.pickF rfl rfl) ?_
                refine OW.nil ?_
                refine KW.condD rfl (fun a7 => ?_) (fun a7 => ?_)
                · refine KW.seq (KW.region ?_)
                  refine OW.val rfl rfl (EX.assign rfl) ?_
                  refine OW.nil ?_
                  refine KW.ret (ret1 rfl rfl ?_)
                  rw [checkM_none (fun h => by obtain ⟨h1, h2, h3, h4, h5, h6, h7⟩ := h; omega)]
                  exact ⟨rfl, hx1.trans hx2⟩
                · refine KW.skip (KW.seq (KW.region ?_))
                  refine OW.val rfl rfl (EX.assign rfl) ?_
                  refine OW.nil ?_
                  refine KW.ret (ret1 rfl rfl ?_)
                  rw [checkM_some ⟨by omega, by omega, by omega, by omega, by omega, by omega, by omega⟩]
                  exact ⟨rfl, hx1.trans hx2⟩
              · refine KW.as 3 (.bool false) rfl (congrArg Value.bool (decide_eq_false (a6))) ?_
                refine KW.region ?_
                refine OW.val rfl rfl (EX.move rfl) ?_
                refine OW.val rfl rfl (by first | exact EX.notD rfl | exact EX.notB rfl) ?_
                refine OW.val rfl rfl (EX.move rfl) ?_
                refine OW.pass rfl rfl ?_
                refine OW.pass rfl rfl ?_
                refine OW.pass rfl rfl ?_
                refine OW.pass rfl rfl ?_
                refine OW.pass rfl rfl ?_
                refine OW.pass rfl rfl ?_
                refine OW.val rfl rfl (EX.pickT rfl rfl) ?_
                refine OW.nil ?_
                refine KW.condT rfl (KW.seq (KW.region ?_))
                refine OW.val rfl rfl (EX.assign rfl) ?_
                refine OW.nil ?_
                refine KW.ret (ret1 rfl rfl ?_)
                rw [checkM_none (fun h => by obtain ⟨h1, h2, h3, h4, h5, h6, h7⟩ := h; omega)]
                exact ⟨rfl, hx1.trans hx2⟩
            · refine OW.pass rfl rfl ?_
              refine OW.pass rfl rfl ?_
              refine OW.pass rfl rfl ?_
              refine OW.val rfl rfl (EX.pickF rfl rfl) ?_
              refine OW.val rfl rfl (EX.assign rfl) ?_
              refine OW.nil ?_
              refine KW.seq (KW.seq ?_)
              refine KW.region ?_
              refine OW.val rfl rfl (EX.move rfl) ?_
              refine OW.val rfl rfl (by first | exact EX.notD rfl | exact EX.notB rfl) ?_
              refine OW.val rfl rfl (EX.move rfl) ?_
              refine OW.pass rfl rfl ?_
              refine OW.pass rfl rfl ?_
              refine OW.pass rfl rfl ?_
              refine OW.pass rfl rfl ?_
              refine OW.pass rfl rfl ?_
              refine OW.pass rfl rfl ?_
              refine OW.val rfl rfl (EX.pickT rfl rfl) ?_
              refine OW.nil ?_
              refine KW.condT rfl (KW.seq (KW.region ?_))
              refine OW.val rfl rfl (EX.assign rfl) ?_
              refine OW.nil ?_
              refine KW.ret (ret1 rfl rfl ?_)
              rw [checkM_none (fun h => by obtain ⟨h1, h2, h3, h4, h5, h6, h7⟩ := h; omega)]
              exact ⟨rfl, hx1.trans hx2⟩
          · refine OW.pass rfl rfl ?_
            refine OW.pass rfl rfl ?_
            refine OW.pass rfl rfl ?_
            refine OW.val rfl rfl (EX.pickF rfl rfl) ?_
            refine OW.val rfl rfl (EX.move rfl) ?_
            refine OW.pass rfl rfl ?_
            refine OW.pass rfl rfl ?_
            refine OW.pass rfl rfl ?_
            refine OW.val rfl rfl (EX.pickF rfl rfl) ?_
            refine OW.val rfl rfl (EX.assign rfl) ?_
            refine OW.nil ?_
            refine KW.seq (KW.seq ?_)
            refine KW.region ?_
            refine OW.val rfl rfl (EX.move rfl) ?_
            refine OW.val rfl rfl (by first | exact EX.notD rfl | exact EX.notB rfl) ?_
            refine OW.val rfl rfl (EX.move rfl) ?_
            refine OW.pass rfl rfl ?_
            refine OW.pass rfl rfl ?_
            refine OW.pass rfl rfl ?_
            refine OW.pass rfl rfl ?_
            refine OW.pass rfl rfl ?_
            refine OW.pass rfl rfl ?_
            refine OW.val rfl rfl (EX.pickT rfl rfl) ?_
            refine OW.nil ?_
            refine KW.condT rfl (KW.seq (KW.region ?_))
            refine OW.val rfl rfl (EX.assign rfl) ?_
            refine OW.nil ?_
            refine KW.ret (ret1 rfl rfl ?_)
            rw [checkM_none (fun h => by obtain ⟨h1, h2, h3, h4, h5, h6, h7⟩ := h; omega)]
            exact ⟨rfl, hx1.trans hx2⟩
        · refine OW.pass rfl rfl ?_
          refine OW.pass rfl rfl ?_
          refine OW.pass rfl rfl ?_
          refine OW.val rfl rfl (EX.pickF rfl rfl) ?_
          refine OW.val rfl rfl (EX.move rfl) ?_
          refine OW.pass rfl rfl ?_
          refine OW.pass rfl rfl ?_
          refine OW.pass rfl rfl ?_
          refine OW.val rfl rfl (EX.pickF rfl rfl) ?_
          refine OW.val rfl rfl (EX.move rfl) ?_
          refine OW.pass rfl rfl ?_
          refine OW.pass rfl rfl ?_
          refine OW.pass rfl rfl ?_
          refine OW.val rfl rfl (EX.pickF rfl rfl) ?_
          refine OW.val rfl rfl (EX.assign rfl) ?_
          refine OW.nil ?_
          refine KW.seq (KW.seq ?_)
          refine KW.region ?_
          refine OW.val rfl rfl (EX.move rfl) ?_
          refine OW.val rfl rfl (by first | exact EX.notD rfl | exact EX.notB rfl) ?_
          refine OW.val rfl rfl (EX.move rfl) ?_
          refine OW.pass rfl rfl ?_
          refine OW.pass rfl rfl ?_
          refine OW.pass rfl rfl ?_
          refine OW.pass rfl rfl ?_
          refine OW.pass rfl rfl ?_
          refine OW.pass rfl rfl ?_
          refine OW.val rfl rfl (EX.pickT rfl rfl) ?_
          refine OW.nil ?_
          refine KW.condT rfl (KW.seq (KW.region ?_))
          refine OW.val rfl rfl (EX.assign rfl) ?_
          refine OW.nil ?_
          refine KW.ret (ret1 rfl rfl ?_)
          rw [checkM_none (fun h => by obtain ⟨h1, h2, h3, h4, h5, h6, h7⟩ := h; omega)]
          exact ⟨rfl, hx1.trans hx2⟩
      · refine OW.pass rfl rfl ?_
        refine OW.pass rfl rfl ?_
        refine OW.pass rfl rfl ?_
        refine OW.val rfl rfl (EX.pickF rfl rfl) ?_
        refine OW.val rfl rfl (EX.move rfl) ?_
        refine OW.pass rfl rfl ?_
        refine OW.pass rfl rfl ?_
        refine OW.pass rfl rfl ?_
        refine OW.val rfl rfl (EX.pickF rfl rfl) ?_
        refine OW.val rfl rfl (EX.move rfl) ?_
        refine OW.pass rfl rfl ?_
        refine OW.pass rfl rfl ?_
        refine OW.pass rfl rfl ?_
        refine OW.val rfl rfl (EX.pickF rfl rfl) ?_
        refine OW.val rfl rfl (EX.move rfl) ?_
        refine OW.pass rfl rfl ?_
        refine OW.pass rfl rfl ?_
        refine OW.pass rfl rfl ?_
        refine OW.val rfl rfl (EX.pickF rfl rfl) ?_
        refine OW.val rfl rfl (EX.assign rfl) ?_
        refine OW.nil ?_
        refine KW.seq (KW.seq ?_)
        refine KW.region ?_
        refine OW.val rfl rfl (EX.move rfl) ?_
        refine OW.val rfl rfl (by first | exact EX.notD rfl | exact EX.notB rfl) ?_
        refine OW.val rfl rfl (EX.move rfl) ?_
        refine OW.pass rfl rfl ?_
        refine OW.pass rfl rfl ?_
        refine OW.pass rfl rfl ?_
        refine OW.pass rfl rfl ?_
        refine OW.pass rfl rfl ?_
        refine OW.pass rfl rfl ?_
        refine OW.val rfl rfl (EX.pickT rfl rfl) ?_
        refine OW.nil ?_
        refine KW.condT rfl (KW.seq (KW.region ?_))
        refine OW.val rfl rfl (EX.assign rfl) ?_
        refine OW.nil ?_
        refine KW.ret (ret1 rfl rfl ?_)
        rw [checkM_none (fun h => by obtain ⟨h1, h2, h3, h4, h5, h6, h7⟩ := h; omega)]
        exact ⟨rfl, hx1.trans hx2⟩
    · refine OW.pass rfl rfl ?_
      refine OW.pass rfl rfl ?_
      refine OW.pass rfl rfl ?_
      refine OW.val rfl rfl (EX.pickF rfl rfl) ?_
      refine OW.val rfl rfl (EX.move rfl) ?_
      refine OW.pass rfl rfl ?_
      refine OW.pass rfl rfl ?_
      refine OW.pass rfl rfl ?_
      refine OW.val rfl rfl (EX.pickF rfl rfl) ?_
      refine OW.val rfl rfl (EX.move rfl) ?_
      refine OW.pass rfl rfl ?_
      refine OW.pass rfl rfl ?_
      refine OW.pass rfl rfl ?_
      refine OW.val rfl rfl (EX.pickF rfl rfl) ?_
      refine OW.val rfl rfl (EX.move rfl) ?_
      refine OW.pass rfl rfl ?_
      refine OW.pass rfl rfl ?_
      refine OW.pass rfl rfl ?_
      refine OW.val rfl rfl (EX.pickF rfl rfl) ?_
      refine OW.val rfl rfl (EX.move rfl) ?_
      refine OW.pass rfl rfl ?_
      refine OW.pass rfl rfl ?_
      refine OW.pass rfl rfl ?_
      refine OW.val rfl rfl (EX.pickF rfl rfl) ?_
      refine OW.val rfl rfl (EX.assign rfl) ?_
      refine OW.nil ?_
      refine KW.seq (KW.seq ?_)
      refine KW.region ?_
      refine OW.val rfl rfl (EX.move rfl) ?_
      refine OW.val rfl rfl (by first | exact EX.notD rfl | exact EX.notB rfl) ?_
      refine OW.val rfl rfl (EX.move rfl) ?_
      refine OW.pass rfl rfl ?_
      refine OW.pass rfl rfl ?_
      refine OW.pass rfl rfl ?_
      refine OW.pass rfl rfl ?_
      refine OW.pass rfl rfl ?_
      refine OW.pass rfl rfl ?_
      refine OW.val rfl rfl (EX.pickT rfl rfl) ?_
      refine OW.nil ?_
      refine KW.condT rfl (KW.seq (KW.region ?_))
      refine OW.val rfl rfl (EX.assign rfl) ?_
      refine OW.nil ?_
      refine KW.ret (ret1 rfl rfl ?_)
      rw [checkM_none (fun h => by obtain ⟨h1, h2, h3, h4, h5, h6, h7⟩ := h; omega)]
      exact ⟨rfl, hx1.trans hx2⟩
  · refine OW.pass rfl rfl ?_
    refine OW.pass rfl rfl ?_
    refine OW.pass rfl rfl ?_
    refine OW.val rfl rfl (EX.pickF rfl rfl) ?_
    refine OW.val rfl rfl (EX.move rfl) ?_
    refine OW.pass rfl rfl ?_
    refine OW.pass rfl rfl ?_
    refine OW.pass rfl rfl ?_
    refine OW.val rfl rfl (EX.pickF rfl rfl) ?_
    refine OW.val rfl rfl (EX.move rfl) ?_
    refine OW.pass rfl rfl ?_
    refine OW.pass rfl rfl ?_
    refine OW.pass rfl rfl ?_
    refine OW.val rfl rfl (EX.pickF rfl rfl) ?_
    refine OW.val rfl rfl (EX.move rfl) ?_
    refine OW.pass rfl rfl ?_
    refine OW.pass rfl rfl ?_
    refine OW.pass rfl rfl ?_
    refine OW.val rfl rfl (EX.pickF rfl rfl) ?_
    refine OW.val rfl rfl (EX.move rfl) ?_
    refine OW.pass rfl rfl ?_
    refine OW.pass rfl rfl ?_
    refine OW.pass rfl rfl ?_
    refine OW.val rfl rfl (EX.pickF rfl rfl) ?_
    refine OW.val rfl rfl (EX.move rfl) ?_
    refine OW.pass rfl rfl ?_
    refine OW.pass rfl rfl ?_
    refine OW.pass rfl rfl ?_
    refine OW.val rfl rfl (EX.pickF rfl rfl) ?_
    refine OW.val rfl rfl (EX.assign rfl) ?_
    refine OW.nil ?_
    refine KW.seq (KW.seq ?_)
    refine KW.region ?_
    refine OW.val rfl rfl (EX.move rfl) ?_
    refine OW.val rfl rfl (by first | exact EX.notD rfl | exact EX.notB rfl) ?_
    refine OW.val rfl rfl (EX.move rfl) ?_
    refine OW.pass rfl rfl ?_
    refine OW.pass rfl rfl ?_
    refine OW.pass rfl rfl ?_
    refine OW.pass rfl rfl ?_
    refine OW.pass rfl rfl ?_
    refine OW.pass rfl rfl ?_
    refine OW.val rfl rfl (EX.pickT rfl rfl) ?_
    refine OW.nil ?_
    refine KW.condT rfl (KW.seq (KW.region ?_))
    refine OW.val rfl rfl (EX.assign rfl) ?_
    refine OW.nil ?_
    refine KW.ret (ret1 rfl rfl ?_)
    rw [checkM_none (fun h => by obtain ⟨h1, h2, h3, h4, h5, h6, h7⟩ := h; omega)]
    exact ⟨rfl, hx1.trans hx2⟩
end Go.Proofs.YthgfdpcpbghkpaaGreatDoor
namespace Go.Proofs.YthgfdpcpbghkpaaGreatDoor
open Go.RowKit Rec Pth
theorem memberM_none {m : M} (h : ¬ mayM m) : memberM m = ([], 200) := by unfold memberM; rw [if_neg h]
theorem memberM_some {m : M} (h : mayM m) : memberM m = (memberT m, 0) := by unfold memberM; rw [if_pos h]
set_option maxRecDepth 20000 in
theorem member_s (m : M) (hm : m.Ok) (w : World) : Ret Tryz.prog 31 [.agg m.cells.toArray] w fun v w' => v = .tuple #[str (memberM m).1, .int .i64 (((memberM m).2 : Nat) : Int)] ∧ Ext w w' := by
  refine Ret.enter Tryz.func31 rfl Tryz.ntmps31 (by kernel_rfl) rfl ?_
  refine KW.seq (KW.region ?_)
  refine OW.boxS rfl rfl rfl ?_
  rintro mb w1 hge1 hm1 hx1
  refine OW.val rfl rfl (EX.assign rfl) ?_
  refine OW.val rfl rfl (EX.assign rfl) ?_
  refine OW.nil ?_
  refine KW.seq (KW.seq (KW.region ?_))
  replace hm1 : Bk w1 mb 70 m.cells := hm1
  refine OW.val rfl rfl (EX.loadBk Tryz.underlying70 rfl ti70 rfl (hm1) (rfl)) ?_
  refine OW.call rfl rfl rfl (checkM_s m hm w1) ?_
  rintro _ w2 ⟨rfl, hx2⟩
  refine OW.val rfl rfl (EX.assign rfl) ?_
  refine OW.nil ?_
  refine KW.seq (KW.region ?_)
  refine OW.val rfl rfl (EX.move rfl) ?_
  refine OW.val rfl rfl (by first | exact EX.neqN (b := 0) rfl rfl | exact EX.neqZ rfl rfl) ?_
  refine OW.nil ?_
  have hm2 := hm1.ext hx2
  have x2 := hx1.trans hx2
  by_cases h : mayM m
  · rw [checkM_some h]
    refine KW.condD rfl (fun c1 => ?_) (fun c1 => ?_)
    · omega
    · obtain ⟨hpl, _⟩ := may_path h
      have hh := h
      obtain ⟨_, h2, h3, h4, h5, h6, h7⟩ := h
      obtain ⟨st, est⟩ := Int.eq_ofNat_of_zero_le (show 0 ≤ m.start by omega)
      obtain ⟨se, ese⟩ := Int.eq_ofNat_of_zero_le (show 0 ≤ m.sectors by omega)
      obtain ⟨sz, esz⟩ := Int.eq_ofNat_of_zero_le (show 0 ≤ m.size by omega)
      have hsum := hm.sum
      have hcells : m.cells = [str m.path, .int .i64 (st : Int), .int .i64 (se : Int), .int .i64 (sz : Int), .int .u32 (m.sum : Int)] := by unfold M.cells; rw [est, ese, esz]
      have hmt : memberT m = be 1 m.path.length ++ m.path ++ be 2 st ++ be 2 se ++ be 2 sz ++ be 4 m.sum := by unfold memberT; rw [est, ese, esz]; rfl
      rw [hcells] at hm2
      have l1 := be_length 1 m.path.length
      have l2 := be_length 2 st
      have l3 := be_length 2 se
      have l4 := be_length 2 sz
      have l5 := be_length 4 m.sum
      rw [memberM_some hh, hmt]
      refine KW.skip (KW.seq ?_)
      refine KW.cut1 (fun (wr : World) => Ext w wr) (fun (wr : World) => [(2, str (be 1 m.path.length ++ m.path ++ be 2 st ++ be 2 se ++ be 2 sz ++ be 4 m.sum)), (3, .int .i64 ((0 : Nat) : Int))]) (fun (wr : World) => wr) ?_ ?_
      · skip
        refine KW.regionG (N := 30) (fun w' => Ext w w' ∧ Bk w' mb 70 [str m.path, .int .i64 (st : Int), .int .i64 (se : Int), .int .i64 (sz : Int), .int .u32 (m.sum : Int)]) (by kernel_rfl) rfl ?_
        have hS : (fun w' => Ext w w' ∧ Bk w' mb 70 [str m.path, .int .i64 (st : Int), .int .i64 (se : Int), .int .i64 (sz : Int), .int .u32 (m.sum : Int)]) w2.drew := ⟨x2.trans (Ext.drew w2), hm2.drew⟩
        refine GW.val 0 rfl (by kernel_rfl) (by kernel_rfl) (by kernel_rfl) rfl rfl hS (fun w' hS' => EX.fieldAddr (off := 0) Tryz.underlying70 rfl rfl ti9 rfl rfl) ?_
        refine GW.val 1 rfl (by kernel_rfl) (by kernel_rfl) (by kernel_rfl) rfl rfl hS (fun w' hS' => EX.load Tryz.underlying9 rfl rfl (hS'.2.cell_of rfl)) ?_
        refine GW.val 2 rfl (by kernel_rfl) (by kernel_rfl) (by kernel_rfl) rfl rfl hS (fun w' hS' => EX.lenS Tryz.underlying9 rfl) ?_
        refine GW.val 3 rfl (by kernel_rfl) (by kernel_rfl) (by kernel_rfl) rfl rfl hS (fun w' hS' => by first | exact EX.convN (m := 18446744073709551615) Tryz.underlying3 Tryz.underlying122 rfl rfl (by omega) | exact EX.convW (m := 18446744073709551616) Tryz.underlying3 Tryz.underlying122 rfl rfl (by decide) | exact EX.convZ Tryz.underlying3 Tryz.underlying122 rfl) ?_
        refine GW.val 5 rfl (by kernel_rfl) (by kernel_rfl) (by kernel_rfl) rfl rfl hS (fun w' hS' => EX.fieldAddr (off := 0) Tryz.underlying70 rfl rfl ti9 rfl rfl) ?_
        refine GW.val 6 rfl (by kernel_rfl) (by kernel_rfl) (by kernel_rfl) rfl rfl hS (fun w' hS' => EX.load Tryz.underlying9 rfl rfl (hS'.2.cell_of rfl)) ?_
        refine GW.val 8 rfl (by kernel_rfl) (by kernel_rfl) (by kernel_rfl) rfl rfl hS (fun w' hS' => EX.fieldAddr (off := 1) Tryz.underlying70 rfl rfl ti3 rfl rfl) ?_
        refine GW.val 9 rfl (by kernel_rfl) (by kernel_rfl) (by kernel_rfl) rfl rfl hS (fun w' hS' => EX.load Tryz.underlying3 rfl rfl (hS'.2.cell_of rfl)) ?_
        refine GW.val 10 rfl (by kernel_rfl) (by kernel_rfl) (by kernel_rfl) rfl rfl hS (fun w' hS' => by first | exact EX.convN (m := 18446744073709551615) Tryz.underlying3 Tryz.underlying122 rfl rfl (by omega) | exact EX.convW (m := 18446744073709551616) Tryz.underlying3 Tryz.underlying122 rfl rfl (by decide) | exact EX.convZ Tryz.underlying3 Tryz.underlying122 rfl) ?_
        refine GW.val 13 rfl (by kernel_rfl) (by kernel_rfl) (by kernel_rfl) rfl rfl hS (fun w' hS' => EX.fieldAddr (off := 2) Tryz.underlying70 rfl rfl ti3 rfl rfl) ?_
        refine GW.val 14 rfl (by kernel_rfl) (by kernel_rfl) (by kernel_rfl) rfl rfl hS (fun w' hS' => EX.load Tryz.underlying3 rfl rfl (hS'.2.cell_of rfl)) ?_
        refine GW.val 15 rfl (by kernel_rfl) (by kernel_rfl) (by kernel_rfl) rfl rfl hS (fun w' hS' => by first | exact EX.convN (m := 18446744073709551615) Tryz.underlying3 Tryz.underlying122 rfl rfl (by omega) | exact EX.convW (m := 18446744073709551616) Tryz.underlying3 Tryz.underlying122 rfl rfl (by decide) | exact EX.convZ Tryz.underlying3 Tryz.underlying122 rfl) ?_
        refine GW.val 18 rfl (by kernel_rfl) (by kernel_rfl) (by kernel_rfl) rfl rfl hS (fun w' hS' => EX.fieldAddr (off := 3) Tryz.underlying70 rfl rfl ti3 rfl rfl) ?_
        refine GW.val 19 rfl (by kernel_rfl) (by kernel_rfl) (by kernel_rfl) rfl rfl hS (fun w' hS' => EX.load Tryz.underlying3 rfl rfl (hS'.2.cell_of rfl)) ?_
        refine GW.val 20 rfl (by kernel_rfl) (by kernel_rfl) (by kernel_rfl) rfl rfl hS (fun w' hS' => by first | exact EX.convN (m := 18446744073709551615) Tryz.underlying3 Tryz.underlying122 rfl rfl (by omega) | exact EX.convW (m := 18446744073709551616) Tryz.underlying3 Tryz.underlying122 rfl rfl (by decide) | exact EX.convZ Tryz.underlying3 Tryz.underlying122 rfl) ?_
        refine GW.val 23 rfl (by kernel_rfl) (by kernel_rfl) (by kernel_rfl) rfl rfl hS (fun w' hS' => EX.fieldAddr (off := 4) Tryz.underlying70 rfl rfl ti68 rfl rfl) ?_
        refine GW.val 24 rfl (by kernel_rfl) (by kernel_rfl) (by kernel_rfl) rfl rfl hS (fun w' hS' => EX.load Tryz.underlying68 rfl rfl (hS'.2.cell_of rfl)) ?_
        refine GW.val 25 rfl (by kernel_rfl) (by kernel_rfl) (by kernel_rfl) rfl rfl hS (fun w' hS' => by first | exact EX.convN (m := 18446744073709551615) Tryz.underlying68 Tryz.underlying122 rfl rfl (by omega) | exact EX.convW (m := 18446744073709551616) Tryz.underlying68 Tryz.underlying122 rfl rfl (by decide) | exact EX.convZ Tryz.underlying68 Tryz.underlying122 rfl) ?_
        refine GW.call 4 rfl (by kernel_rfl) rfl rfl rfl (number_r m.path.length 1 (by omega) (by decide) w2.drew) ?_
        rintro _ w4 ⟨rfl, hx4⟩
        refine ⟨⟨hS.1.trans hx4, hS.2.ext hx4⟩, fun hS => ?_⟩
        refine GW.val 7 rfl (by kernel_rfl) (by kernel_rfl) (by kernel_rfl) rfl rfl hS (fun w' hS' => EX.addS rfl rfl (by first | omega | (simp only [List.length_append, List.length_cons, List.length_nil, List.length_take, List.length_drop, List.length_replicate]; omega))) ?_
        refine GW.call 11 rfl (by kernel_rfl) rfl rfl rfl (number_r st 2 (by omega) (by decide) w4) ?_
        rintro _ w11 ⟨rfl, hx11⟩
        refine ⟨⟨hS.1.trans hx11, hS.2.ext hx11⟩, fun hS => ?_⟩
        refine GW.val 12 rfl (by kernel_rfl) (by kernel_rfl) (by kernel_rfl) rfl rfl hS (fun w' hS' => EX.addS rfl rfl (by first | omega | (simp only [List.length_append, List.length_cons, List.length_nil, List.length_take, List.length_drop, List.length_replicate]; omega))) ?_
        refine GW.call 16 rfl (by kernel_rfl) rfl rfl rfl (number_r se 2 (by omega) (by decide) w11) ?_
        rintro _ w16 ⟨rfl, hx16⟩
        refine ⟨⟨hS.1.trans hx16, hS.2.ext hx16⟩, fun hS => ?_⟩
        refine GW.val 17 rfl (by kernel_rfl) (by kernel_rfl) (by kernel_rfl) rfl rfl hS (fun w' hS' => EX.addS rfl rfl (by first | omega | (simp only [List.length_append, List.length_cons, List.length_nil, List.length_take, List.length_drop, List.length_replicate]; omega))) ?_
        refine GW.call 21 rfl (by kernel_rfl) rfl rfl rfl (number_r sz 2 (by omega) (by decide) w16) ?_
        rintro _ w21 ⟨rfl, hx21⟩
        refine ⟨⟨hS.1.trans hx21, hS.2.ext hx21⟩, fun hS => ?_⟩
        refine GW.val 22 rfl (by kernel_rfl) (by kernel_rfl) (by kernel_rfl) rfl rfl hS (fun w' hS' => EX.addS rfl rfl (by first | omega | (simp only [List.length_append, List.length_cons, List.length_nil, List.length_take, List.length_drop, List.length_replicate]; omega))) ?_
        refine GW.call 26 rfl (by kernel_rfl) rfl rfl rfl (number_r m.sum 4 (by omega) (by decide) w21) ?_
        rintro _ w26 ⟨rfl, hx26⟩
        refine ⟨⟨hS.1.trans hx26, hS.2.ext hx26⟩, fun hS => ?_⟩
        refine GW.val 27 rfl (by kernel_rfl) (by kernel_rfl) (by kernel_rfl) rfl rfl hS (fun w' hS' => EX.addS rfl rfl (by first | omega | (simp only [List.length_append, List.length_cons, List.length_nil, List.length_take, List.length_drop, List.length_replicate]; omega))) ?_
        refine GW.val 28 rfl (by kernel_rfl) (by kernel_rfl) (by kernel_rfl) rfl rfl hS (fun w' hS' => EX.assign rfl) ?_
        refine GW.val 29 rfl (by kernel_rfl) (by kernel_rfl) (by kernel_rfl) rfl rfl hS (fun w' hS' => EX.assign rfl) ?_
        refine GW.done (by kernel_rfl) ?_
        refine KW.meet1 w26 ⟨rfl, rfl, trivial⟩ rfl ?_
        exact hS.1
      · rintro wr xr
        refine KW.ret (ret2 rfl rfl rfl ?_)
        exact ⟨rfl, xr⟩
  · rw [checkM_none h, memberM_none h]
    refine KW.condD rfl (fun c1 => ?_) (fun c1 => ?_)
    · refine KW.seq (KW.region ?_)
      refine OW.val rfl rfl (EX.move rfl) ?_
      refine OW.val rfl rfl (EX.assign rfl) ?_
      refine OW.val rfl rfl (EX.assign rfl) ?_
      refine OW.nil ?_
      refine KW.ret (ret2 rfl rfl rfl ?_)
      exact ⟨rfl, x2⟩
    · omega
set_option maxRecDepth 20000 in
theorem rmember_s (m : M) (hm : m.Ok) (w : World) : Ret Tryz.prog 35 [.agg m.cells.toArray] w fun v w' => v = .tuple #[str (memberM m).1, .int .i64 (((memberM m).2 : Nat) : Int)] ∧ Ext w w' := by
  refine Ret.enter Tryz.func35 rfl Tryz.ntmps35 (by kernel_rfl) rfl ?_
  refine KW.seq (KW.region ?_)
  refine OW.boxS rfl rfl rfl ?_
  rintro mb w1 hge1 hm1 hx1
  refine OW.val rfl rfl (EX.assign rfl) ?_
  refine OW.val rfl rfl (EX.assign rfl) ?_
  refine OW.nil ?_
  refine KW.seq (KW.seq (KW.region ?_))
  replace hm1 : Bk w1 mb 70 m.cells := hm1
  refine OW.val rfl rfl (EX.loadBk Tryz.underlying70 rfl ti70 rfl (hm1) (rfl)) ?_
  refine OW.call rfl rfl rfl (rcheckM_s m hm w1) ?_
  rintro _ w2 ⟨rfl, hx2⟩
  refine OW.val rfl rfl (by first | exact EX.neqN (b := 0) rfl rfl | exact EX.neqZ rfl rfl) ?_
  refine OW.nil ?_
  have hm2 := hm1.ext hx2
  have x2 := hx1.trans hx2
  by_cases h : mayM m
  · rw [checkM_some h]
    refine KW.condD rfl (fun c1 => ?_) (fun c1 => ?_)
    · omega
    · obtain ⟨hpl, _⟩ := may_path h
      have hh := h
      obtain ⟨_, h2, h3, h4, h5, h6, h7⟩ := h
      obtain ⟨st, est⟩ := Int.eq_ofNat_of_zero_le (show 0 ≤ m.start by omega)
      obtain ⟨se, ese⟩ := Int.eq_ofNat_of_zero_le (show 0 ≤ m.sectors by omega)
      obtain ⟨sz, esz⟩ := Int.eq_ofNat_of_zero_le (show 0 ≤ m.size by omega)
      have hsum := hm.sum
      have hpl2 : m.path.length ≤ 255 := by omega
      have hcells : m.cells = [str m.path, .int .i64 (st : Int), .int .i64 (se : Int), .int .i64 (sz : Int), .int .u32 (m.sum : Int)] := by unfold M.cells; rw [est, ese, esz]
      have hmt : memberT m = [UInt8.ofNat m.path.length] ++ m.path ++ be 2 st ++ be 2 se ++ be 2 sz ++ be 4 m.sum := by unfold memberT; rw [est, ese, esz, be_one _ hpl2]; rfl
      rw [hcells] at hm2
      have l2 := be_length 2 st
      have l3 := be_length 2 se
      have l4 := be_length 2 sz
      have l5 := be_length 4 m.sum
      rw [memberM_some hh, hmt]
      refine KW.skip (KW.seq ?_)
      refine KW.cut1 (fun (wr : World) => Ext w wr) (fun (wr : World) => [(2, str ([UInt8.ofNat m.path.length] ++ m.path ++ be 2 st ++ be 2 se ++ be 2 sz ++ be 4 m.sum)), (3, .int .i64 ((0 : Nat) : Int))]) (fun (wr : World) => wr) ?_ ?_
      · skip
        refine KW.regionG (N := 31) (fun w' => Ext w w' ∧ Bk w' mb 70 [str m.path, .int .i64 (st : Int), .int .i64 (se : Int), .int .i64 (sz : Int), .int .u32 (m.sum : Int)]) (by kernel_rfl) rfl ?_
        have hS : (fun w' => Ext w w' ∧ Bk w' mb 70 [str m.path, .int .i64 (st : Int), .int .i64 (se : Int), .int .i64 (sz : Int), .int .u32 (m.sum : Int)]) w2.drew := ⟨x2.trans (Ext.drew w2), hm2.drew⟩
        refine GW.val 0 rfl (by kernel_rfl) (by kernel_rfl) (by kernel_rfl) rfl rfl hS (fun w' hS' => EX.fieldAddr (off := 0) Tryz.underlying70 rfl rfl ti9 rfl rfl) ?_
        refine GW.val 1 rfl (by kernel_rfl) (by kernel_rfl) (by kernel_rfl) rfl rfl hS (fun w' hS' => EX.load Tryz.underlying9 rfl rfl (hS'.2.cell_of rfl)) ?_
        refine GW.val 2 rfl (by kernel_rfl) (by kernel_rfl) (by kernel_rfl) rfl rfl hS (fun w' hS' => EX.lenS Tryz.underlying9 rfl) ?_
        refine GW.val 3 rfl (by kernel_rfl) (by kernel_rfl) (by kernel_rfl) rfl rfl hS (fun w' hS' => by first | exact EX.convN (m := 255) Tryz.underlying3 Tryz.underlying5 rfl rfl (by omega) | exact EX.convW (m := 256) Tryz.underlying3 Tryz.underlying5 rfl rfl (by decide) | exact EX.convZ Tryz.underlying3 Tryz.underlying5 rfl) ?_
        refine GW.val 6 rfl (by kernel_rfl) (by kernel_rfl) (by kernel_rfl) rfl rfl hS (fun w' hS' => EX.fieldAddr (off := 0) Tryz.underlying70 rfl rfl ti9 rfl rfl) ?_
        refine GW.val 7 rfl (by kernel_rfl) (by kernel_rfl) (by kernel_rfl) rfl rfl hS (fun w' hS' => EX.load Tryz.underlying9 rfl rfl (hS'.2.cell_of rfl)) ?_
        refine GW.val 9 rfl (by kernel_rfl) (by kernel_rfl) (by kernel_rfl) rfl rfl hS (fun w' hS' => EX.fieldAddr (off := 1) Tryz.underlying70 rfl rfl ti3 rfl rfl) ?_
        refine GW.val 10 rfl (by kernel_rfl) (by kernel_rfl) (by kernel_rfl) rfl rfl hS (fun w' hS' => EX.load Tryz.underlying3 rfl rfl (hS'.2.cell_of rfl)) ?_
        refine GW.val 11 rfl (by kernel_rfl) (by kernel_rfl) (by kernel_rfl) rfl rfl hS (fun w' hS' => by first | exact EX.convN (m := 18446744073709551615) Tryz.underlying3 Tryz.underlying122 rfl rfl (by omega) | exact EX.convW (m := 18446744073709551616) Tryz.underlying3 Tryz.underlying122 rfl rfl (by decide) | exact EX.convZ Tryz.underlying3 Tryz.underlying122 rfl) ?_
        refine GW.val 14 rfl (by kernel_rfl) (by kernel_rfl) (by kernel_rfl) rfl rfl hS (fun w' hS' => EX.fieldAddr (off := 2) Tryz.underlying70 rfl rfl ti3 rfl rfl) ?_
        refine GW.val 15 rfl (by kernel_rfl) (by kernel_rfl) (by kernel_rfl) rfl rfl hS (fun w' hS' => EX.load Tryz.underlying3 rfl rfl (hS'.2.cell_of rfl)) ?_
        refine GW.val 16 rfl (by kernel_rfl) (by kernel_rfl) (by kernel_rfl) rfl rfl hS (fun w' hS' => by first | exact EX.convN (m := 18446744073709551615) Tryz.underlying3 Tryz.underlying122 rfl rfl (by omega) | exact EX.convW (m := 18446744073709551616) Tryz.underlying3 Tryz.underlying122 rfl rfl (by decide) | exact EX.convZ Tryz.underlying3 Tryz.underlying122 rfl) ?_
        refine GW.val 19 rfl (by kernel_rfl) (by kernel_rfl) (by kernel_rfl) rfl rfl hS (fun w' hS' => EX.fieldAddr (off := 3) Tryz.underlying70 rfl rfl ti3 rfl rfl) ?_
        refine GW.val 20 rfl (by kernel_rfl) (by kernel_rfl) (by kernel_rfl) rfl rfl hS (fun w' hS' => EX.load Tryz.underlying3 rfl rfl (hS'.2.cell_of rfl)) ?_
        refine GW.val 21 rfl (by kernel_rfl) (by kernel_rfl) (by kernel_rfl) rfl rfl hS (fun w' hS' => by first | exact EX.convN (m := 18446744073709551615) Tryz.underlying3 Tryz.underlying122 rfl rfl (by omega) | exact EX.convW (m := 18446744073709551616) Tryz.underlying3 Tryz.underlying122 rfl rfl (by decide) | exact EX.convZ Tryz.underlying3 Tryz.underlying122 rfl) ?_
        refine GW.val 24 rfl (by kernel_rfl) (by kernel_rfl) (by kernel_rfl) rfl rfl hS (fun w' hS' => EX.fieldAddr (off := 4) Tryz.underlying70 rfl rfl ti68 rfl rfl) ?_
        refine GW.val 25 rfl (by kernel_rfl) (by kernel_rfl) (by kernel_rfl) rfl rfl hS (fun w' hS' => EX.load Tryz.underlying68 rfl rfl (hS'.2.cell_of rfl)) ?_
        refine GW.val 26 rfl (by kernel_rfl) (by kernel_rfl) (by kernel_rfl) rfl rfl hS (fun w' hS' => by first | exact EX.convN (m := 18446744073709551615) Tryz.underlying68 Tryz.underlying122 rfl rfl (by omega) | exact EX.convW (m := 18446744073709551616) Tryz.underlying68 Tryz.underlying122 rfl rfl (by decide) | exact EX.convZ Tryz.underlying68 Tryz.underlying122 rfl) ?_
        refine GW.two 4 12 (by kernel_rfl) ?_ ?_
        · refine GO.buildB 4 1 rfl rfl rfl Tryz.underlying54 ti5 rfl rfl rfl rfl rfl (by decide) ?_
          rintro gb w4 hge4 h4 hx4
          refine ⟨⟨hS.1.trans hx4, hS.2.ext hx4⟩, fun hS => ?_⟩
          refine GW.strong (fun w' => Ext w w' ∧ Bk w' mb 70 [str m.path, .int .i64 (st : Int), .int .i64 (se : Int), .int .i64 (sz : Int), .int .u32 (m.sum : Int)] ∧ Bk w' gb 5 [.int .u8 ((m.path.length : Nat) : Int)]) (fun _ h => ⟨h.1, h.2.1⟩) ?_
          replace hS := (⟨hS.1, hS.2, h4⟩ : (fun w' => Ext w w' ∧ Bk w' mb 70 [str m.path, .int .i64 (st : Int), .int .i64 (se : Int), .int .i64 (sz : Int), .int .u32 (m.sum : Int)] ∧ Bk w' gb 5 [.int .u8 ((m.path.length : Nat) : Int)]) w4)
          refine GW.val 5 rfl (by kernel_rfl) (by kernel_rfl) (by kernel_rfl) rfl rfl hS (fun w' hS' => EX.strOf Tryz.underlying54 Tryz.underlying5 Tryz.underlying9 rfl (oneB hS'.2.2 hpl2) rfl) ?_
          refine GW.val 8 rfl (by kernel_rfl) (by kernel_rfl) (by kernel_rfl) rfl rfl hS (fun w' hS' => EX.addS rfl rfl (by first | omega | (simp only [List.length_append, List.length_cons, List.length_nil, List.length_take, List.length_drop, List.length_replicate]; omega))) ?_
          refine GW.call 12 rfl (by kernel_rfl) rfl rfl rfl (rNumber_r st 2 (by omega) (by decide) w4) ?_
          rintro _ w12 ⟨rfl, hx12⟩
          refine ⟨⟨hS.1.trans hx12, hS.2.1.ext hx12, hS.2.2.ext hx12⟩, fun hS => ?_⟩
          refine GW.val 13 rfl (by kernel_rfl) (by kernel_rfl) (by kernel_rfl) rfl rfl hS (fun w' hS' => EX.addS rfl rfl (by first | omega | (simp only [List.length_append, List.length_cons, List.length_nil, List.length_take, List.length_drop, List.length_replicate]; omega))) ?_
          refine GW.call 17 rfl (by kernel_rfl) rfl rfl rfl (rNumber_r se 2 (by omega) (by decide) w12) ?_
          rintro _ w17 ⟨rfl, hx17⟩
          refine ⟨⟨hS.1.trans hx17, hS.2.1.ext hx17, hS.2.2.ext hx17⟩, fun hS => ?_⟩
          refine GW.val 18 rfl (by kernel_rfl) (by kernel_rfl) (by kernel_rfl) rfl rfl hS (fun w' hS' => EX.addS rfl rfl (by first | omega | (simp only [List.length_append, List.length_cons, List.length_nil, List.length_take, List.length_drop, List.length_replicate]; omega))) ?_
          refine GW.call 22 rfl (by kernel_rfl) rfl rfl rfl (rNumber_r sz 2 (by omega) (by decide) w17) ?_
          rintro _ w22 ⟨rfl, hx22⟩
          refine ⟨⟨hS.1.trans hx22, hS.2.1.ext hx22, hS.2.2.ext hx22⟩, fun hS => ?_⟩
          refine GW.val 23 rfl (by kernel_rfl) (by kernel_rfl) (by kernel_rfl) rfl rfl hS (fun w' hS' => EX.addS rfl rfl (by first | omega | (simp only [List.length_append, List.length_cons, List.length_nil, List.length_take, List.length_drop, List.length_replicate]; omega))) ?_
          refine GW.call 27 rfl (by kernel_rfl) rfl rfl rfl (rNumber_r m.sum 4 (by omega) (by decide) w22) ?_
          rintro _ w27 ⟨rfl, hx27⟩
          refine ⟨⟨hS.1.trans hx27, hS.2.1.ext hx27, hS.2.2.ext hx27⟩, fun hS => ?_⟩
          refine GW.val 28 rfl (by kernel_rfl) (by kernel_rfl) (by kernel_rfl) rfl rfl hS (fun w' hS' => EX.addS rfl rfl (by first | omega | (simp only [List.length_append, List.length_cons, List.length_nil, List.length_take, List.length_drop, List.length_replicate]; omega))) ?_
          refine GW.val 29 rfl (by kernel_rfl) (by kernel_rfl) (by kernel_rfl) rfl rfl hS (fun w' hS' => EX.assign rfl) ?_
          refine GW.val 30 rfl (by kernel_rfl) (by kernel_rfl) (by kernel_rfl) rfl rfl hS (fun w' hS' => EX.assign rfl) ?_
          refine GW.done (by kernel_rfl) ?_
          refine KW.meet1 w27 ⟨rfl, rfl, trivial⟩ rfl ?_
          exact hS.1
        · refine GO.call 12 rfl rfl rfl rfl (rNumber_r st 2 (by omega) (by decide) w2.drew) ?_
          rintro _ w12 ⟨rfl, hx12⟩
          refine ⟨⟨hS.1.trans hx12, hS.2.ext hx12⟩, fun hS => ?_⟩
          refine GW.two 4 17 (by kernel_rfl) ?_ ?_
          · refine GO.buildB 4 1 rfl rfl rfl Tryz.underlying54 ti5 rfl rfl rfl rfl rfl (by decide) ?_
            rintro gb w4 hge4 h4 hx4
            refine ⟨⟨hS.1.trans hx4, hS.2.ext hx4⟩, fun hS => ?_⟩
            refine GW.strong (fun w' => Ext w w' ∧ Bk w' mb 70 [str m.path, .int .i64 (st : Int), .int .i64 (se : Int), .int .i64 (sz : Int), .int .u32 (m.sum : Int)] ∧ Bk w' gb 5 [.int .u8 ((m.path.length : Nat) : Int)]) (fun _ h => ⟨h.1, h.2.1⟩) ?_
            replace hS := (⟨hS.1, hS.2, h4⟩ : (fun w' => Ext w w' ∧ Bk w' mb 70 [str m.path, .int .i64 (st : Int), .int .i64 (se : Int), .int .i64 (sz : Int), .int .u32 (m.sum : Int)] ∧ Bk w' gb 5 [.int .u8 ((m.path.length : Nat) : Int)]) w4)
            refine GW.val 5 rfl (by kernel_rfl) (by kernel_rfl) (by kernel_rfl) rfl rfl hS (fun w' hS' => EX.strOf Tryz.underlying54 Tryz.underlying5 Tryz.underlying9 rfl (oneB hS'.2.2 hpl2) rfl) ?_
            refine GW.val 8 rfl (by kernel_rfl) (by kernel_rfl) (by kernel_rfl) rfl rfl hS (fun w' hS' => EX.addS rfl rfl (by first | omega | (simp only [List.length_append, List.length_cons, List.length_nil, List.length_take, List.length_drop, List.length_replicate]; omega))) ?_
            refine GW.val 13 rfl (by kernel_rfl) (by kernel_rfl) (by kernel_rfl) rfl rfl hS (fun w' hS' => EX.addS rfl rfl (by first | omega | (simp only [List.length_append, List.length_cons, List.length_nil, List.length_take, List.length_drop, List.length_replicate]; omega))) ?_
            refine GW.call 17 rfl (by kernel_rfl) rfl rfl rfl (rNumber_r se 2 (by omega) (by decide) w4) ?_
            rintro _ w17 ⟨rfl, hx17⟩
            refine ⟨⟨hS.1.trans hx17, hS.2.1.ext hx17, hS.2.2.ext hx17⟩, fun hS => ?_⟩
            refine GW.val 18 rfl (by kernel_rfl) (by kernel_rfl) (by kernel_rfl) rfl rfl hS (fun w' hS' => EX.addS rfl rfl (by first | omega | (simp only [List.length_append, List.length_cons, List.length_nil, List.length_take, List.length_drop, List.length_replicate]; omega))) ?_
            refine GW.call 22 rfl (by kernel_rfl) rfl rfl rfl (rNumber_r sz 2 (by omega) (by decide) w17) ?_
            rintro _ w22 ⟨rfl, hx22⟩
            refine ⟨⟨hS.1.trans hx22, hS.2.1.ext hx22, hS.2.2.ext hx22⟩, fun hS => ?_⟩
            refine GW.val 23 rfl (by kernel_rfl) (by kernel_rfl) (by kernel_rfl) rfl rfl hS (fun w' hS' => EX.addS rfl rfl (by first | omega | (simp only [List.length_append, List.length_cons, List.length_nil, List.length_take, List.length_drop, List.length_replicate]; omega))) ?_
            refine GW.call 27 rfl (by kernel_rfl) rfl rfl rfl (rNumber_r m.sum 4 (by omega) (by decide) w22) ?_
            rintro _ w27 ⟨rfl, hx27⟩
            refine ⟨⟨hS.1.trans hx27, hS.2.1.ext hx27, hS.2.2.ext hx27⟩, fun hS => ?_⟩
            refine GW.val 28 rfl (by kernel_rfl) (by kernel_rfl) (by kernel_rfl) rfl rfl hS (fun w' hS' => EX.addS rfl rfl (by first | omega | (simp only [List.length_append, List.length_cons, List.length_nil, List.length_take, List.length_drop, List.length_replicate]; omega))) ?_
            refine GW.val 29 rfl (by kernel_rfl) (by kernel_rfl) (by kernel_rfl) rfl rfl hS (fun w' hS' => EX.assign rfl) ?_
            refine GW.val 30 rfl (by kernel_rfl) (by kernel_rfl) (by kernel_rfl) rfl rfl hS (fun w' hS' => EX.assign rfl) ?_
            refine GW.done (by kernel_rfl) ?_
            refine KW.meet1 w27 ⟨rfl, rfl, trivial⟩ rfl ?_
            exact hS.1
          · refine GO.call 17 rfl rfl rfl rfl (rNumber_r se 2 (by omega) (by decide) w12) ?_
            rintro _ w17 ⟨rfl, hx17⟩
            refine ⟨⟨hS.1.trans hx17, hS.2.ext hx17⟩, fun hS => ?_⟩
            refine GW.two 4 22 (by kernel_rfl) ?_ ?_
            · refine GO.buildB 4 1 rfl rfl rfl Tryz.underlying54 ti5 rfl rfl rfl rfl rfl (by decide) ?_
              rintro gb w4 hge4 h4 hx4
              refine ⟨⟨hS.1.trans hx4, hS.2.ext hx4⟩, fun hS => ?_⟩
              refine GW.strong (fun w' => Ext w w' ∧ Bk w' mb 70 [str m.path, .int .i64 (st : Int), .int .i64 (se : Int), .int .i64 (sz : Int), .int .u32 (m.sum : Int)] ∧ Bk w' gb 5 [.int .u8 ((m.path.length : Nat) : Int)]) (fun _ h => ⟨h.1, h.2.1⟩) ?_
              replace hS := (⟨hS.1, hS.2, h4⟩ : (fun w' => Ext w w' ∧ Bk w' mb 70 [str m.path, .int .i64 (st : Int), .int .i64 (se : Int), .int .i64 (sz : Int), .int .u32 (m.sum : Int)] ∧ Bk w' gb 5 [.int .u8 ((m.path.length : Nat) : Int)]) w4)
              refine GW.val 5 rfl (by kernel_rfl) (by kernel_rfl) (by kernel_rfl) rfl rfl hS (fun w' hS' => EX.strOf Tryz.underlying54 Tryz.underlying5 Tryz.underlying9 rfl (oneB hS'.2.2 hpl2) rfl) ?_
              refine GW.val 8 rfl (by kernel_rfl) (by kernel_rfl) (by kernel_rfl) rfl rfl hS (fun w' hS' => EX.addS rfl rfl (by first | omega | (simp only [List.length_append, List.length_cons, List.length_nil, List.length_take, List.length_drop, List.length_replicate]; omega))) ?_
              refine GW.val 13 rfl (by kernel_rfl) (by kernel_rfl) (by kernel_rfl) rfl rfl hS (fun w' hS' => EX.addS rfl rfl (by first | omega | (simp only [List.length_append, List.length_cons, List.length_nil, List.length_take, List.length_drop, List.length_replicate]; omega))) ?_
              refine GW.val 18 rfl (by kernel_rfl) (by kernel_rfl) (by kernel_rfl) rfl rfl hS (fun w' hS' => EX.addS rfl rfl (by first | omega | (simp only [List.length_append, List.length_cons, List.length_nil, List.length_take, List.length_drop, List.length_replicate]; omega))) ?_
              refine GW.call 22 rfl (by kernel_rfl) rfl rfl rfl (rNumber_r sz 2 (by omega) (by decide) w4) ?_
              rintro _ w22 ⟨rfl, hx22⟩
              refine ⟨⟨hS.1.trans hx22, hS.2.1.ext hx22, hS.2.2.ext hx22⟩, fun hS => ?_⟩
              refine GW.val 23 rfl (by kernel_rfl) (by kernel_rfl) (by kernel_rfl) rfl rfl hS (fun w' hS' => EX.addS rfl rfl (by first | omega | (simp only [List.length_append, List.length_cons, List.length_nil, List.length_take, List.length_drop, List.length_replicate]; omega))) ?_
              refine GW.call 27 rfl (by kernel_rfl) rfl rfl rfl (rNumber_r m.sum 4 (by omega) (by decide) w22) ?_
              rintro _ w27 ⟨rfl, hx27⟩
              refine ⟨⟨hS.1.trans hx27, hS.2.1.ext hx27, hS.2.2.ext hx27⟩, fun hS => ?_⟩
              refine GW.val 28 rfl (by kernel_rfl) (by kernel_rfl) (by kernel_rfl) rfl rfl hS (fun w' hS' => EX.addS rfl rfl (by first | omega | (simp only [List.length_append, List.length_cons, List.length_nil, List.length_take, List.length_drop, List.length_replicate]; omega))) ?_
              refine GW.val 29 rfl (by kernel_rfl) (by kernel_rfl) (by kernel_rfl) rfl rfl hS (fun w' hS' => EX.assign rfl) ?_
              refine GW.val 30 rfl (by kernel_rfl) (by kernel_rfl) (by kernel_rfl) rfl rfl hS (fun w' hS' => EX.assign rfl) ?_
              refine GW.done (by kernel_rfl) ?_
              refine KW.meet1 w27 ⟨rfl, rfl, trivial⟩ rfl ?_
              exact hS.1
            · refine GO.call 22 rfl rfl rfl rfl (rNumber_r sz 2 (by omega) (by decide) w17) ?_
              rintro _ w22 ⟨rfl, hx22⟩
              refine ⟨⟨hS.1.trans hx22, hS.2.ext hx22⟩, fun hS => ?_⟩
              refine GW.two 4 27 (by kernel_rfl) ?_ ?_
              · refine GO.buildB 4 1 rfl rfl rfl Tryz.underlying54 ti5 rfl rfl rfl rfl rfl (by decide) ?_
                rintro gb w4 hge4 h4 hx4
                refine ⟨⟨hS.1.trans hx4, hS.2.ext hx4⟩, fun hS => ?_⟩
                refine GW.strong (fun w' => Ext w w' ∧ Bk w' mb 70 [str m.path, .int .i64 (st : Int), .int .i64 (se : Int), .int .i64 (sz : Int), .int .u32 (m.sum : Int)] ∧ Bk w' gb 5 [.int .u8 ((m.path.length : Nat) : Int)]) (fun _ h => ⟨h.1, h.2.1⟩) ?_
                replace hS := (⟨hS.1, hS.2, h4⟩ : (fun w' => Ext w w' ∧ Bk w' mb 70 [str m.path, .int .i64 (st : Int), .int .i64 (se : Int), .int .i64 (sz : Int), .int .u32 (m.sum : Int)] ∧ Bk w' gb 5 [.int .u8 ((m.path.length : Nat) : Int)]) w4)
                refine GW.val 5 rfl (by kernel_rfl) (by kernel_rfl) (by kernel_rfl) rfl rfl hS (fun w' hS' => EX.strOf Tryz.underlying54 Tryz.underlying5 Tryz.underlying9 rfl (oneB hS'.2.2 hpl2) rfl) ?_
                refine GW.val 8 rfl (by kernel_rfl) (by kernel_rfl) (by kernel_rfl) rfl rfl hS (fun w' hS' => EX.addS rfl rfl (by first | omega | (simp only [List.length_append, List.length_cons, List.length_nil, List.length_take, List.length_drop, List.length_replicate]; omega))) ?_
                refine GW.val 13 rfl (by kernel_rfl) (by kernel_rfl) (by kernel_rfl) rfl rfl hS (fun w' hS' => EX.addS rfl rfl (by first | omega | (simp only [List.length_append, List.length_cons, List.length_nil, List.length_take, List.length_drop, List.length_replicate]; omega))) ?_
                refine GW.val 18 rfl (by kernel_rfl) (by kernel_rfl) (by kernel_rfl) rfl rfl hS (fun w' hS' => EX.addS rfl rfl (by first | omega | (simp only [List.length_append, List.length_cons, List.length_nil, List.length_take, List.length_drop, List.length_replicate]; omega))) ?_
                refine GW.val 23 rfl (by kernel_rfl) (by kernel_rfl) (by kernel_rfl) rfl rfl hS (fun w' hS' => EX.addS rfl rfl (by first | omega | (simp only [List.length_append, List.length_cons, List.length_nil, List.length_take, List.length_drop, List.length_replicate]; omega))) ?_
                refine GW.call 27 rfl (by kernel_rfl) rfl rfl rfl (rNumber_r m.sum 4 (by omega) (by decide) w4) ?_
                rintro _ w27 ⟨rfl, hx27⟩
                refine ⟨⟨hS.1.trans hx27, hS.2.1.ext hx27, hS.2.2.ext hx27⟩, fun hS => ?_⟩
                refine GW.val 28 rfl (by kernel_rfl) (by kernel_rfl) (by kernel_rfl) rfl rfl hS (fun w' hS' => EX.addS rfl rfl (by first | omega | (simp only [List.length_append, List.length_cons, List.length_nil, List.length_take, List.length_drop, List.length_replicate]; omega))) ?_
                refine GW.val 29 rfl (by kernel_rfl) (by kernel_rfl) (by kernel_rfl) rfl rfl hS (fun w' hS' => EX.assign rfl) ?_
                refine GW.val 30 rfl (by kernel_rfl) (by kernel_rfl) (by kernel_rfl) rfl rfl hS (fun w' hS' => EX.assign rfl) ?_
                refine GW.done (by kernel_rfl) ?_
                refine KW.meet1 w27 ⟨rfl, rfl, trivial⟩ rfl ?_
                exact hS.1
              · refine GO.call 27 rfl rfl rfl rfl (rNumber_r m.sum 4 (by omega) (by decide) w22) ?_
                rintro _ w27 ⟨rfl, hx27⟩
                refine ⟨⟨hS.1.trans hx27, hS.2.ext hx27⟩, fun hS => ?_⟩
                refine GW.buildB 4 1 rfl (by kernel_rfl) rfl rfl Tryz.underlying54 ti5 rfl rfl rfl rfl rfl (by decide) ?_
                rintro gb w4 hge4 h4 hx4
                refine ⟨⟨hS.1.trans hx4, hS.2.ext hx4⟩, fun hS => ?_⟩
                refine GW.strong (fun w' => Ext w w' ∧ Bk w' mb 70 [str m.path, .int .i64 (st : Int), .int .i64 (se : Int), .int .i64 (sz : Int), .int .u32 (m.sum : Int)] ∧ Bk w' gb 5 [.int .u8 ((m.path.length : Nat) : Int)]) (fun _ h => ⟨h.1, h.2.1⟩) ?_
                replace hS := (⟨hS.1, hS.2, h4⟩ : (fun w' => Ext w w' ∧ Bk w' mb 70 [str m.path, .int .i64 (st : Int), .int .i64 (se : Int), .int .i64 (sz : Int), .int .u32 (m.sum : Int)] ∧ Bk w' gb 5 [.int .u8 ((m.path.length : Nat) : Int)]) w4)
                refine GW.val 5 rfl (by kernel_rfl) (by kernel_rfl) (by kernel_rfl) rfl rfl hS (fun w' hS' => EX.strOf Tryz.underlying54 Tryz.underlying5 Tryz.underlying9 rfl (oneB hS'.2.2 hpl2) rfl) ?_
                refine GW.val 8 rfl (by kernel_rfl) (by kernel_rfl) (by kernel_rfl) rfl rfl hS (fun w' hS' => EX.addS rfl rfl (by first | omega | (simp only [List.length_append, List.length_cons, List.length_nil, List.length_take, List.length_drop, List.length_replicate]; omega))) ?_
                refine GW.val 13 rfl (by kernel_rfl) (by kernel_rfl) (by kernel_rfl) rfl rfl hS (fun w' hS' => EX.addS rfl rfl (by first | omega | (simp only [List.length_append, List.length_cons, List.length_nil, List.length_take, List.length_drop, List.length_replicate]; omega))) ?_
                refine GW.val 18 rfl (by kernel_rfl) (by kernel_rfl) (by kernel_rfl) rfl rfl hS (fun w' hS' => EX.addS rfl rfl (by first | omega | (simp only [List.length_append, List.length_cons, List.length_nil, List.length_take, List.length_drop, List.length_replicate]; omega))) ?_
                refine GW.val 23 rfl (by kernel_rfl) (by kernel_rfl) (by kernel_rfl) rfl rfl hS (fun w' hS' => EX.addS rfl rfl (by first | omega | (simp only [List.length_append, List.length_cons, List.length_nil, List.length_take, List.length_drop, List.length_replicate]; omega))) ?_
                refine GW.val 28 rfl (by kernel_rfl) (by kernel_rfl) (by kernel_rfl) rfl rfl hS (fun w' hS' => EX.addS rfl rfl (by first | omega | (simp only [List.length_append, List.length_cons, List.length_nil, List.length_take, List.length_drop, List.length_replicate]; omega))) ?_
                refine GW.val 29 rfl (by kernel_rfl) (by kernel_rfl) (by kernel_rfl) rfl rfl hS (fun w' hS' => EX.assign rfl) ?_
                refine GW.val 30 rfl (by kernel_rfl) (by kernel_rfl) (by kernel_rfl) rfl rfl hS (fun w' hS' => EX.assign rfl) ?_
                refine GW.done (by kernel_rfl) ?_
                refine KW.meet1 w4 ⟨rfl, rfl, trivial⟩ rfl ?_
                exact hS.1
      · rintro wr xr
        refine KW.ret (ret2 rfl rfl rfl ?_)
        exact ⟨rfl, xr⟩
  · rw [checkM_none h, memberM_none h]
    refine KW.condD rfl (fun c1 => ?_) (fun c1 => ?_)
    · refine KW.seq (KW.region ?_)
      refine OW.val rfl rfl (EX.assign rfl) ?_
      refine OW.val rfl rfl (EX.assign rfl) ?_
      refine OW.nil ?_
      refine KW.ret (ret2 rfl rfl rfl ?_)
      exact ⟨rfl, x2⟩
    · omega
end Go.Proofs.YthgfdpcpbghkpaaGreatDoor
namespace Go.Proofs.YthgfdpcpbghkpaaGreatDoor
open Go.RowKit Rec
def first (s : List UInt8) : Nat := (s.getD 0 0).toNat
def memAt (s : List UInt8) : M :=
  ⟨(s.drop 1).take (first s), nb ((s.drop (1 + first s)).take 2), nb ((s.drop (3 + first s)).take 2), nb ((s.drop (5 + first s)).take 2), nb ((s.drop (7 + first s)).take 4)⟩
def memL : Nat → List UInt8 → List M → List M × Nat
  | 0, _, out => (out, 0)
  | f + 1, s, out => if s = [] then (out, 0) else if s.length < first s + 11 then ([], 200) else if mayM (memAt s) then memL f (s.drop (11 + first s)) (out ++ [memAt s]) else ([], 200)
def memsV (l : List M) : List Value := l.flatMap M.cells
theorem memsV_snoc (l : List M) (m : M) : memsV (l ++ [m]) = memsV l ++ m.cells := by simp [memsV]
theorem nb_le (s : List UInt8) (k : Nat) (h : k ≤ 4) : nb (s.take k) ≤ 4294967295 := by
  have h1 : nb (s.take k) < 256 ^ 4 := Nat.lt_of_lt_of_le (nb_lt _ _ rfl) (Nat.pow_le_pow_right (by decide) (by rw [List.length_take]; omega))
  have : (256 : Nat) ^ 4 = 4294967296 := rfl
  omega
theorem memAt_ok (s : List UInt8) (h : s.length ≤ 1000000000) : (memAt s).Ok := ⟨by show ((s.drop 1).take (first s)).length ≤ _; rw [List.length_take, List.length_drop]; omega, nb_le _ 4 (by omega)⟩
theorem first_nb {s : List UInt8} (h : s ≠ []) : numI (s.take 1) = ((first s : Nat) : Int) := by
  rw [numI_small _ (by rw [List.length_take]; omega)]
  match s, h with
  | c :: s, _ => simp [nb, first]
theorem first_lt (s : List UInt8) : first s < 256 := (s.getD 0 0).toNat_lt
set_option maxRecDepth 20000 in
theorem members_s (s : List UInt8) (hs : s.length ≤ 1000000000) (w : World) :
    Ret Tryz.prog 45 [str s] w fun v w' => ∃ vs, v = .tuple #[vs, .int .i64 (((memL (s.length + 1) s []).2 : Nat) : Int)] ∧ Own w' w.heap.size 70 5 vs (memL (s.length + 1) s []).1.length (memsV (memL (s.length + 1) s []).1) ∧ Ext w w' := by
  generalize hres : memL (s.length + 1) s [] = res
  refine Ret.enter Tryz.func45 rfl Tryz.ntmps45 (by kernel_rfl) rfl ?_
  refine KW.seq (KW.region ?_)
  refine OW.val rfl rfl (EX.assign rfl) ?_
  refine OW.val rfl rfl (EX.assign rfl) ?_
  refine OW.nil ?_
  refine KW.seq (KW.region ?_)
  refine OW.val rfl rfl (EX.assign rfl) ?_
  refine OW.nil ?_
  refine KW.seq (KW.region ?_)
  refine OW.val rfl rfl (EX.move rfl) ?_
  refine OW.val rfl rfl (EX.buildS (pl := [(0, 1)]) (ks := [0]) (is := [0]) (zs := [str []]) Tryz.underlying134 ti134 (by kernel_rfl) rfl rfl rfl (by first | rfl | (simp only [List.all_cons, List.all_nil, Bool.and_true, Bool.true_and, Bool.and_eq_true, Value.oneCell']; repeat (first | assumption | exact Own.one (by assumption) | constructor))) (by simp only [setAll, List.set_cons_zero, List.set_cons_succ]; rfl)) ?_
  refine OW.val rfl rfl (EX.buildG (pl := [(0, 1)]) (ks := [0]) (zs := [str []]) Tryz.underlying136 ti136 (by kernel_rfl) rfl rfl rfl) ?_
  refine OW.boxS rfl rfl rfl ?_
  rintro rb w1 hge1 hr1 hx1
  refine OW.val rfl rfl (EX.assign rfl) ?_
  refine OW.nil ?_
  refine KW.seq (KW.block ?_)
  have hrw : w.heap.size ≤ rb := hge1
  refine KW.loop5 (fun (f : Nat) (q : (List UInt8)) (out : (List M)) (v : Value) (wr : World) => q.length < f ∧ q.length ≤ 1000000000 ∧ out.length + f ≤ s.length + 1 ∧ memL f q out = res ∧ Bk wr rb 136 [str q] ∧ Own wr w.heap.size 70 5 v out.length (memsV out) ∧ Ext w wr) (fun (f : Nat) (q : (List UInt8)) (out : (List M)) (v : Value) (wr : World) => [(4, v), (5, .pointer (some ⟨rb, 0, none⟩))]) (fun (f : Nat) (q : (List UInt8)) (out : (List M)) (v : Value) (wr : World) => wr) (fun (f : Nat) (q : (List UInt8)) (out : (List M)) (v : Value) (wr : World) => q.length) (s.length + 1) (s) ([]) (.slice none 0 0) (w1) ⟨rfl, rfl, trivial⟩ rfl ?_ ?_
  · exact ⟨by omega, hs, by simp, hres, hr1, Own.nil _ _ _ _, hx1⟩
  · rintro f q out v wr ⟨hqf, hql, hof, hm, hr, hown, hx⟩
    refine KW.seq (KW.seq (KW.region ?_))
    refine OW.val rfl rfl (EX.move rfl) ?_
    refine OW.val rfl rfl (EX.nilCheck rfl) ?_
    refine OW.val rfl rfl (EX.fieldAddr (off := 0) Tryz.underlying136 rfl rfl ti134 rfl rfl) ?_
    refine OW.val rfl rfl (EX.fieldAddr (off := 0) Tryz.underlying134 rfl rfl ti9 rfl rfl) ?_
    refine OW.val rfl rfl (EX.load Tryz.underlying9 rfl rfl (hr.cell_of rfl)) ?_
    refine OW.val rfl rfl (EX.neqS (r := []) rfl rfl) ?_
    refine OW.nil ?_
    refine KW.condD rfl (fun hne => ?_) (fun hne => ?_)
    · obtain ⟨f, rfl⟩ : ∃ g, f = g + 1 := ⟨f - 1, by omega⟩
      have hne' : q ≠ [] := by simpa using hne
      have hql0 : 0 < q.length := List.length_pos_iff.2 hne'
      have hfl := first_lt q
      rw [memL, if_neg hne'] at hm
      generalize hn : first q = n at hm hfl
      have d1 : (q.drop 1).drop n = q.drop (1 + n) := List.drop_drop ..
      have d3 : (q.drop (1 + n)).drop 2 = q.drop (3 + n) := by rw [List.drop_drop]; congr 1; omega
      have d5 : (q.drop (3 + n)).drop 2 = q.drop (5 + n) := by rw [List.drop_drop]; congr 1; omega
      have d7 : (q.drop (5 + n)).drop 2 = q.drop (7 + n) := by rw [List.drop_drop]; congr 1; omega
      have d11 : (q.drop (7 + n)).drop 4 = q.drop (11 + n) := by rw [List.drop_drop]; congr 1; omega
      have ld : ∀ j, (q.drop j).length ≤ 1000000000000 := fun j => by rw [List.length_drop]; omega
      have hd1 : (q.drop 1).length = q.length - 1 := List.length_drop
      have b2 := fun t : List UInt8 => nb_le t 2 (by omega)
      have b4 := fun t : List UInt8 => nb_le t 4 (by omega)
      have i2 := fun t : List UInt8 => numI_small (t.take 2) (by rw [List.length_take]; omega)
      have i4 := fun t : List UInt8 => numI_small (t.take 4) (by rw [List.length_take]; omega)
      refine KW.skip (KW.block (KW.seq (KW.region ?_)))
      refine OW.val rfl rfl (EX.move rfl) ?_
      refine OW.call rfl rfl rfl (num_s rb 1 q _ wr hr (by omega) (by omega)) ?_
      rintro _ w2 ⟨rfl, hr2, hm2⟩
      refine OW.val rfl rfl (EX.assign rfl) ?_
      refine OW.nil ?_
      refine KW.seq (KW.seq (KW.region ?_))
      refine OW.val rfl rfl (EX.move rfl) ?_
      refine OW.val rfl rfl (EX.nilCheck rfl) ?_
      refine OW.val rfl rfl (EX.fieldAddr (off := 0) Tryz.underlying136 rfl rfl ti134 rfl rfl) ?_
      refine OW.val rfl rfl (EX.fieldAddr (off := 0) Tryz.underlying134 rfl rfl ti9 rfl rfl) ?_
      rw [first_nb hne', hn]
      have x2 : Ext w w2 := below_mo hx hm2 hx.size (fun k hk => by simp at hk; omega)
      have hown2 := hown.mo hm2 (fun k hk => by simp; exact fun z => hown.ne hr (by decide) k hk z.symm)
      refine OW.val rfl rfl (EX.load Tryz.underlying9 rfl rfl (hr2.cell_of rfl)) ?_
      refine OW.val rfl rfl (EX.lenS Tryz.underlying9 rfl) ?_
      refine OW.val rfl rfl (EX.move rfl) ?_
      refine OW.val rfl rfl (by first | exact EX.addN (b := 10) (m := 9223372036854775807) rfl rfl rfl (by omega) | exact EX.addZ (m := 9223372036854775807) rfl rfl rfl rfl (by omega)) ?_
      refine OW.val rfl rfl (by first | exact EX.lssN rfl rfl | exact EX.lssZ rfl rfl) ?_
      refine OW.nil ?_
      refine KW.condD rfl (fun hshort => ?_) (fun hshort => ?_)
      · rw [if_pos (by omega)] at hm
        subst hm
        refine KW.seq (KW.region ?_)
        refine OW.val rfl rfl (EX.assign rfl) ?_
        refine OW.val rfl rfl (EX.assign rfl) ?_
        refine OW.nil ?_
        refine KW.ret (ret2 rfl rfl rfl ?_)
        exact ⟨_, rfl, Own.nil _ _ _ _, x2⟩
      · rw [if_neg (by omega)] at hm
        refine KW.skip (KW.seq (KW.region ?_))
        refine OW.val rfl rfl (EX.move rfl) ?_
        refine OW.val rfl rfl (EX.nilCheck rfl) ?_
        refine OW.val rfl rfl (EX.fieldAddr (off := 0) Tryz.underlying136 rfl rfl ti134 rfl rfl) ?_
        refine OW.val rfl rfl (EX.move rfl) ?_
        refine OW.call rfl rfl rfl (take_s rb n (q.drop 1) _ w2 hr2 (by omega) (ld 1)) ?_
        rintro _ w3 ⟨rfl, hr3, hm3⟩
        refine OW.val rfl rfl (EX.buildS (pl := [(0, 1), (1, 1), (2, 1), (3, 1), (4, 1)]) (ks := [0]) (is := [0]) (zs := [str [], .int .i64 0, .int .i64 0, .int .i64 0, .int .u32 0]) Tryz.underlying70 ti70 (by kernel_rfl) rfl rfl rfl (by first | rfl | (simp only [List.all_cons, List.all_nil, Bool.and_true, Bool.true_and, Bool.and_eq_true, Value.oneCell']; repeat (first | assumption | exact Own.one (by assumption) | constructor))) (by simp only [setAll, List.set_cons_zero, List.set_cons_succ]; rfl)) ?_
        rw [d1] at hr3
        have x3 : Ext w w3 := below_mo x2 hm3 x2.size (fun k hk => by simp at hk; omega)
        have hown3 := hown2.mo hm3 (fun k hk => by simp; exact fun z => hown2.ne hr2 (by decide) k hk z.symm)
        refine OW.allocB (l := [str [], .int .i64 0, .int .i64 0, .int .i64 0, .int .u32 0]) rfl rfl ti70 rfl ?_
        rintro mb w4 hge4 hmb4 hx4
        refine OW.storeS rfl ti70 rfl rfl rfl (by first | rfl | (simp only [List.all_cons, List.all_nil, Bool.and_true, Bool.true_and, Bool.and_eq_true, Value.oneCell']; repeat (first | assumption | exact Own.one (by assumption) | constructor))) (hmb4) (Nat.le_refl _) ?_
        rintro w5 hmb5 hm5
        refine OW.nil ?_
        refine KW.seq (KW.region ?_)
        refine OW.val rfl rfl (EX.move rfl) ?_
        have x4 := x3.trans hx4
        have x5 : Ext w w5 := below_mo x4 hm5 x4.size (fun k hk => by simp at hk; have := x3.size; omega)
        have hmbw : w.heap.size ≤ mb := by have := x3.size; omega
        have hr5 := (hr3.ext hx4).mo hm5 (by simp; exact (hr3.ext hx4).ne hmb4 (by decide))
        have hown5 := (hown3.ext hx4).mo hm5 (fun k hk => by
          have hlt := (hown3.lt k hk).2
          simp
          omega)
        have hnm : ∀ k, v.ownBlock = some k → k ≠ mb := fun k hk => by have hlt := (hown3.lt k hk).2; omega
        have hrm : mb ≠ rb := fun z => (hr5.ne hmb5 (by decide)) z.symm
        refine OW.call rfl rfl rfl (num_s rb 2 (q.drop (1 + n)) _ w5 hr5 (by omega) (ld _)) ?_
        rintro _ w6 ⟨rfl, hr6, hm6⟩
        refine OW.val rfl rfl (EX.move rfl) ?_
        rw [d3] at hr6
        refine OW.call rfl rfl rfl (num_s rb 2 (q.drop (3 + n)) _ w6 hr6 (by omega) (ld _)) ?_
        rintro _ w7 ⟨rfl, hr7, hm7⟩
        refine OW.val rfl rfl (EX.move rfl) ?_
        rw [d5] at hr7
        refine OW.call rfl rfl rfl (num_s rb 2 (q.drop (5 + n)) _ w7 hr7 (by omega) (ld _)) ?_
        rintro _ w8 ⟨rfl, hr8, hm8⟩
        refine OW.val rfl rfl (EX.move rfl) ?_
        rw [d7] at hr8
        have b47 := b4 (q.drop (7 + n))
        have c9 := num_s rb 4 (q.drop (7 + n)) _ w8 hr8 (by omega) (ld _)
        rw [i4] at c9
        refine OW.call rfl rfl rfl (c9) ?_
        rintro _ w9 ⟨rfl, hr9, hm9⟩
        refine OW.val rfl rfl (by first | exact EX.convN (m := 4294967295) Tryz.underlying3 Tryz.underlying68 rfl rfl (by omega) | exact EX.convW (m := 4294967296) Tryz.underlying3 Tryz.underlying68 rfl rfl (by decide) | exact EX.convZ Tryz.underlying3 Tryz.underlying68 rfl) ?_
        refine OW.val rfl rfl (EX.fieldAddr (off := 1) Tryz.underlying70 rfl rfl ti3 rfl rfl) ?_
        rw [d11] at hr9
        rw [i2, i2, i2]
        have hm59 : Mo w5 w9 [rb] := ((hm6.trans hm7).trans hm8).trans hm9
        have hmb9 := hmb5.mo hm59 (by simpa using hrm)
        have hown9 := hown5.mo hm59 (fun k hk => by simp; exact fun z => hown5.ne hr5 (by decide) k hk z.symm)
        have x9 : Ext w w9 := below_mo x5 hm59 x5.size (fun k hk => by simp at hk; omega)
        have hM : memAt q = ⟨(q.drop 1).take n, nb ((q.drop (1 + n)).take 2), nb ((q.drop (3 + n)).take 2), nb ((q.drop (5 + n)).take 2), nb ((q.drop (7 + n)).take 4)⟩ := by unfold memAt; rw [hn]
        refine OW.storeB rfl ti3 rfl rfl (by first | rfl | assumption | exact Own.one (by assumption)) (hmb9) (by simp) ?_
        rintro wa hba hma
        refine OW.val rfl rfl (EX.fieldAddr (off := 2) Tryz.underlying70 rfl rfl ti3 rfl rfl) ?_
        refine OW.storeB rfl ti3 rfl rfl (by first | rfl | assumption | exact Own.one (by assumption)) (hba) (by simp) ?_
        rintro wb hbb hmb'
        refine OW.val rfl rfl (EX.fieldAddr (off := 3) Tryz.underlying70 rfl rfl ti3 rfl rfl) ?_
        refine OW.storeB rfl ti3 rfl rfl (by first | rfl | assumption | exact Own.one (by assumption)) (hbb) (by simp) ?_
        rintro wc hbc hmc
        refine OW.val rfl rfl (EX.fieldAddr (off := 4) Tryz.underlying70 rfl rfl ti68 rfl rfl) ?_
        refine OW.storeB rfl ti68 rfl rfl (by first | rfl | assumption | exact Own.one (by assumption)) (hbc) (by simp) ?_
        rintro wd hbd hmd
        refine OW.nil ?_
        refine KW.seq (KW.seq (KW.region ?_))
        have hmad : Mo w9 wd [mb] := ((hma.trans hmb').trans hmc).trans hmd
        replace hbd : Bk wd mb 70 (memAt q).cells := by rw [hM]; exact hbd
        have xd : Ext w wd := below_mo x9 hmad x9.size (fun k hk => by simp at hk; omega)
        have hrd := hr9.mo hmad (by simpa using Ne.symm hrm)
        have hownd := hown9.mo hmad (fun k hk => by simpa using hnm k hk)
        refine OW.val rfl rfl (EX.loadBk Tryz.underlying70 rfl ti70 rfl (hbd) (rfl)) ?_
        refine OW.call rfl rfl rfl (checkM_s (memAt q) (memAt_ok q hql) wd) ?_
        rintro _ we ⟨rfl, hxe⟩
        refine OW.val rfl rfl (EX.assign rfl) ?_
        refine OW.nil ?_
        refine KW.seq (KW.region ?_)
        refine OW.val rfl rfl (EX.move rfl) ?_
        refine OW.val rfl rfl (by first | exact EX.neqN (b := 0) rfl rfl | exact EX.neqZ rfl rfl) ?_
        refine OW.nil ?_
        have hbe := hbd.ext hxe
        have hre := hrd.ext hxe
        have howne := hownd.ext hxe
        have xe := xd.trans hxe
        by_cases hmay : mayM (memAt q)
        · rw [checkM_some hmay]
          rw [if_pos hmay] at hm
          refine KW.condD rfl (fun hz => ?_) (fun hz => ?_)
          · omega
          · refine KW.skip (KW.region ?_)
            refine OW.val rfl rfl (EX.move rfl) ?_
            refine OW.val rfl rfl (EX.loadBk Tryz.underlying70 rfl ti70 rfl (hbe) (rfl)) ?_
            refine OW.pushS rfl rfl (fun _ => rfl) rfl Tryz.underlying22 ti70 rfl (by decide) (by decide) rfl rfl (fun _ => rfl) (by first | rfl | assumption | (simp only [List.all_cons, List.all_nil, Bool.and_true, Bool.true_and, Bool.and_eq_true, Value.oneCell']; repeat (first | assumption | constructor))) (xe) (howne) (by simp only [maxLen]; omega) (by omega) ?_
            rintro _ v2 wf hownf xf hgf
            refine OW.val rfl rfl (EX.assign rfl) ?_
            refine OW.nil ?_
            refine KW.leave ?_
            have hdl11 : (q.drop (11 + n)).length = q.length - (11 + n) := List.length_drop ..
            refine KW.back5 (f) (q.drop (11 + n)) (out ++ [memAt q]) (v2) (wf) ⟨rfl, rfl, trivial⟩ rfl ?_ (by omega)
            have hgr : Mo we wf v.ownBlock.toList := Mo.grown hgf (fun k e => by rw [e]; simp)
            refine ⟨by rw [List.length_drop]; omega, by rw [List.length_drop]; omega, by rw [List.length_append, List.length_singleton]; omega, hm, hre.mo hgr (fun z => howne.ne hre (by decide) rb (by simpa using z) rfl), ?_, xf⟩
            rw [List.length_append, memsV_snoc]
            exact hownf
        · rw [checkM_none hmay]
          rw [if_neg hmay] at hm
          subst hm
          refine KW.condD rfl (fun hz => ?_) (fun hz => ?_)
          · refine KW.seq (KW.region ?_)
            refine OW.val rfl rfl (EX.move rfl) ?_
            refine OW.val rfl rfl (EX.assign rfl) ?_
            refine OW.val rfl rfl (EX.assign rfl) ?_
            refine OW.nil ?_
            refine KW.ret (ret2 rfl rfl rfl ?_)
            exact ⟨_, rfl, Own.nil _ _ _ _, xe⟩
          · omega
    · have hq0 : q = [] := by simpa using hne
      obtain ⟨f, rfl⟩ : ∃ g, f = g + 1 := ⟨f - 1, by omega⟩
      rw [memL, if_pos hq0] at hm
      subst hm
      refine KW.exit rfl (KW.seq (KW.region ?_))
      refine OW.val rfl rfl (EX.move rfl) ?_
      refine OW.val rfl rfl (EX.assign rfl) ?_
      refine OW.val rfl rfl (EX.assign rfl) ?_
      refine OW.nil ?_
      refine KW.ret (ret2 rfl rfl rfl ?_)
      exact ⟨_, rfl, hown, hx⟩
theorem numN_c (t : List UInt8) (ht : t.length ≤ 4) (m : Nat) (he : nb t = m) (w : World) : Ret Tryz.prog 77 [str t] w fun v w' => v = .int .i64 ((m : Nat) : Int) ∧ w = w' := by
  have h := rnumber_s t (by omega) w
  rwa [numI_small t ht, he] at h
theorem getD0 {q : List UInt8} (h : q ≠ []) : q[0]? = some (q.getD 0 0) := by
  match q, h with
  | c :: q, _ => rfl
set_option maxRecDepth 20000 in
theorem rmembers_s (s : List UInt8) (hs : s.length ≤ 1000000000) (w : World) :
    Ret Tryz.prog 47 [str s] w fun v w' => ∃ vs, v = .tuple #[vs, .int .i64 (((memL (s.length + 1) s []).2 : Nat) : Int)] ∧ Own w' w.heap.size 70 5 vs (memL (s.length + 1) s []).1.length (memsV (memL (s.length + 1) s []).1) ∧ Ext w w' := by
  generalize hres : memL (s.length + 1) s [] = res
  refine Ret.enter Tryz.func47 rfl Tryz.ntmps47 (by kernel_rfl) rfl ?_
  refine KW.seq (KW.region ?_)
  refine OW.val rfl rfl (EX.assign rfl) ?_
  refine OW.val rfl rfl (EX.assign rfl) ?_
  refine OW.nil ?_
  refine KW.seq (KW.region ?_)
  refine OW.val rfl rfl (EX.assign rfl) ?_
  refine OW.nil ?_
  refine KW.seq (KW.block ?_)
  refine KW.loop5 (fun (f : Nat) (q : (List UInt8)) (out : (List M)) (v : Value) (wr : World) => q.length < f ∧ q.length ≤ 1000000000 ∧ out.length + f ≤ s.length + 1 ∧ memL f q out = res ∧ Own wr w.heap.size 70 5 v out.length (memsV out) ∧ Ext w wr) (fun (f : Nat) (q : (List UInt8)) (out : (List M)) (v : Value) (wr : World) => [(0, str (q)), (4, v)]) (fun (f : Nat) (q : (List UInt8)) (out : (List M)) (v : Value) (wr : World) => wr) (fun (f : Nat) (q : (List UInt8)) (out : (List M)) (v : Value) (wr : World) => q.length) (s.length + 1) (s) ([]) (.slice none 0 0) (w) ⟨rfl, rfl, trivial⟩ rfl ?_ ?_
  · exact ⟨by omega, hs, by simp, hres, Own.nil _ _ _ _, Ext.refl _⟩
  · rintro f q out v wr ⟨hqf, hql, hof, hm, hown, hx⟩
    refine KW.seq (KW.seq (KW.region ?_))
    refine OW.val rfl rfl (EX.move rfl) ?_
    refine OW.val rfl rfl (EX.neqS (r := []) rfl rfl) ?_
    refine OW.nil ?_
    refine KW.condD rfl (fun hne => ?_) (fun hne => ?_)
    · obtain ⟨f, rfl⟩ : ∃ g, f = g + 1 := ⟨f - 1, by omega⟩
      have hne' : q ≠ [] := by simpa using hne
      have hql0 : 0 < q.length := List.length_pos_iff.2 hne'
      have hfl := first_lt q
      have hg0 := getD0 hne'
      rw [memL, if_neg hne'] at hm
      have hfe : ∀ h : 0 < q.length, (q[0]'h).toNat = first q := fun h => by
        match q, h with
        | c :: q, _ => rfl
      have hc0 := (q[0]'hql0).toNat_lt
      generalize hn : first q = n at hm hfl hfe
      have b2 := fun t : List UInt8 => nb_le t 2 (by omega)
      have b4 := nb_le (q.drop (7 + n)) 4 (by omega)
      have i2 := fun t : List UInt8 => numI_small (t.take 2) (by rw [List.length_take]; omega)
      have i4 := fun t : List UInt8 => numI_small (t.take 4) (by rw [List.length_take]; omega)
      refine KW.skip (KW.block (KW.seq (KW.region ?_)))
      refine OW.val rfl rfl (EX.move rfl) ?_
      refine OW.val rfl rfl (EX.indexS (i := 0) Tryz.underlying9 rfl rfl (List.getElem?_eq_getElem (by omega))) ?_
      refine OW.val rfl rfl (by first | exact EX.convN (m := 9223372036854775807) Tryz.underlying5 Tryz.underlying3 rfl rfl (by omega) | exact EX.convZ Tryz.underlying5 Tryz.underlying3 rfl) ?_
      refine OW.val rfl rfl (EX.assign rfl) ?_
      refine OW.nil ?_
      refine KW.seq (KW.seq (KW.region ?_))
      refine OW.val rfl rfl (EX.move rfl) ?_
      refine OW.val rfl rfl (EX.lenS Tryz.underlying9 rfl) ?_
      refine OW.val rfl rfl (EX.move rfl) ?_
      refine OW.val rfl rfl (by first | exact EX.addN (b := 11) (m := 9223372036854775807) rfl rfl rfl (by omega) | exact EX.addZ (m := 9223372036854775807) rfl rfl rfl rfl (by omega)) ?_
      refine OW.val rfl rfl (by first | exact EX.lssN rfl rfl | exact EX.lssZ rfl rfl) ?_
      refine OW.nil ?_
      simp only [hfe]
      refine KW.condD rfl (fun hshort => ?_) (fun hshort => ?_)
      · rw [if_pos (by omega)] at hm
        subst hm
        refine KW.seq (KW.region ?_)
        refine OW.val rfl rfl (EX.assign rfl) ?_
        refine OW.val rfl rfl (EX.assign rfl) ?_
        refine OW.nil ?_
        refine KW.ret (ret2 rfl rfl rfl ?_)
        exact ⟨_, rfl, Own.nil _ _ _ _, hx⟩
      · rw [if_neg (by omega)] at hm
        refine KW.skip (KW.seq (KW.region ?_))
        refine OW.val rfl rfl (EX.move rfl) ?_
        refine OW.val rfl rfl (EX.move rfl) ?_
        refine OW.val rfl rfl (by first | exact EX.addN (a := 1) (m := 9223372036854775807) rfl rfl rfl (by omega) | exact EX.addZ (m := 9223372036854775807) rfl rfl rfl rfl (by omega)) ?_
        refine OW.val rfl rfl (EX.move rfl) ?_
        refine OW.val rfl rfl (by first | exact EX.addN (a := 11) (m := 9223372036854775807) rfl rfl rfl (by omega) | exact EX.addZ (m := 9223372036854775807) rfl rfl rfl rfl (by omega)) ?_
        refine OW.val rfl rfl (EX.sliceLH Tryz.underlying9 rfl rfl rfl (by omega)) ?_
        refine OW.val rfl rfl (EX.assign rfl) ?_
        refine OW.nil ?_
        refine KW.seq ?_
        have hM : memAt q = ⟨(q.drop 1).take n, nb ((q.drop (1 + n)).take 2), nb ((q.drop (3 + n)).take 2), nb ((q.drop (5 + n)).take 2), nb ((q.drop (7 + n)).take 4)⟩ := by unfold memAt; rw [hn]
        generalize hp : (q.drop (1 + n)).take (11 + n - (1 + n)) = p6
        have hpl : p6.length = 10 := by rw [← hp, List.length_take, List.length_drop]; omega
        have p0 : p6.take 2 = (q.drop (1 + n)).take 2 := by rw [← hp, List.take_take]; congr 1; omega
        have p2 : (p6.drop 2).take (4 - 2) = (q.drop (3 + n)).take 2 := by rw [← hp, List.drop_take, List.take_take, List.drop_drop, show 1 + n + 2 = 3 + n by omega]; congr 1; omega
        have p4 : (p6.drop 4).take (6 - 4) = (q.drop (5 + n)).take 2 := by rw [← hp, List.drop_take, List.take_take, List.drop_drop, show 1 + n + 4 = 5 + n by omega]; congr 1; omega
        have p66 : p6.drop 6 = (q.drop (7 + n)).take 4 := by rw [← hp, List.drop_take, List.drop_drop, show 1 + n + 6 = 7 + n by omega]; congr 1; omega
        have pn : (q.drop 1).take (1 + n - 1) = (q.drop 1).take n := by congr 1; omega
        have c0 : ∀ w, _ := fun w => numN_c (p6.take 2) (by rw [List.length_take]; omega) (nb ((q.drop (1 + n)).take 2)) (by rw [p0]) w
        have c2 : ∀ w, _ := fun w => numN_c ((p6.drop 2).take (4 - 2)) (by rw [List.length_take]; omega) (nb ((q.drop (3 + n)).take 2)) (by rw [p2]) w
        have c4 : ∀ w, _ := fun w => numN_c ((p6.drop 4).take (6 - 4)) (by rw [List.length_take]; omega) (nb ((q.drop (5 + n)).take 2)) (by rw [p4]) w
        have c6 : ∀ w, _ := fun w => numN_c (p6.drop 6) (by rw [List.length_drop]; omega) (nb ((q.drop (7 + n)).take 4)) (by rw [p66]) w
        refine KW.cut2 (fun (xb : Nat) (w2 : World) => Ext w w2 ∧ w.heap.size ≤ xb ∧ Bk w2 xb 70 (memAt q).cells ∧ Own w2 w.heap.size 70 5 v out.length (memsV out)) (fun (xb : Nat) (w2 : World) => [(0, str (q)), (4, v), (5, .int .i64 ((n : Nat) : Int)), (7, .pointer (some ⟨xb, 0, none⟩))]) (fun (xb : Nat) (w2 : World) => w2) ?_ ?_
        · skip
          refine KW.regionG (N := 20) (fun w' => Ext w w') (by kernel_rfl) rfl ?_
          have hS : (fun w' => Ext w w') wr.drew := hx.trans (Ext.drew wr)
          have hown := hown.ext (Ext.drew _)
          refine GW.val 0 rfl (by kernel_rfl) (by kernel_rfl) (by kernel_rfl) rfl rfl hS (fun w' hS' => EX.move rfl) ?_
          refine GW.val 1 rfl (by kernel_rfl) (by kernel_rfl) (by kernel_rfl) rfl rfl hS (fun w' hS' => EX.move rfl) ?_
          refine GW.val 2 rfl (by kernel_rfl) (by kernel_rfl) (by kernel_rfl) rfl rfl hS (fun w' hS' => by first | exact EX.addN (a := 1) (m := 9223372036854775807) rfl rfl rfl (by omega) | exact EX.addZ (m := 9223372036854775807) rfl rfl rfl rfl (by omega)) ?_
          refine GW.val 3 rfl (by kernel_rfl) (by kernel_rfl) (by kernel_rfl) rfl rfl hS (fun w' hS' => EX.sliceLH (i := 1) Tryz.underlying9 rfl rfl rfl (by omega)) ?_
          refine GW.val 4 rfl (by kernel_rfl) (by kernel_rfl) (by kernel_rfl) rfl rfl hS (fun w' hS' => EX.move rfl) ?_
          refine GW.val 5 rfl (by kernel_rfl) (by kernel_rfl) (by kernel_rfl) rfl rfl hS (fun w' hS' => EX.sliceFH (j := 2) Tryz.underlying9 rfl rfl (by omega)) ?_
          refine GW.val 7 rfl (by kernel_rfl) (by kernel_rfl) (by kernel_rfl) rfl rfl hS (fun w' hS' => EX.move rfl) ?_
          refine GW.val 8 rfl (by kernel_rfl) (by kernel_rfl) (by kernel_rfl) rfl rfl hS (fun w' hS' => EX.sliceLH (i := 2) (j := 4) Tryz.underlying9 rfl rfl rfl (by omega)) ?_
          refine GW.val 10 rfl (by kernel_rfl) (by kernel_rfl) (by kernel_rfl) rfl rfl hS (fun w' hS' => EX.move rfl) ?_
          refine GW.val 11 rfl (by kernel_rfl) (by kernel_rfl) (by kernel_rfl) rfl rfl hS (fun w' hS' => EX.sliceLH (i := 4) (j := 6) Tryz.underlying9 rfl rfl rfl (by omega)) ?_
          refine GW.val 13 rfl (by kernel_rfl) (by kernel_rfl) (by kernel_rfl) rfl rfl hS (fun w' hS' => EX.move rfl) ?_
          refine GW.val 14 rfl (by kernel_rfl) (by kernel_rfl) (by kernel_rfl) rfl rfl hS (fun w' hS' => EX.sliceLE (i := 6) Tryz.underlying9 rfl rfl (by omega)) ?_
          refine GW.two 6 18 (by kernel_rfl) ?_ ?_
          · refine GO.call 6 rfl rfl rfl rfl (c0 wr.drew) ?_
            rintro _ _ ⟨rfl, rfl⟩
            refine ⟨hS, fun hS => ?_⟩
            refine GW.two 9 18 (by kernel_rfl) ?_ ?_
            · refine GO.call 9 rfl rfl rfl rfl (c2 wr.drew) ?_
              rintro _ _ ⟨rfl, rfl⟩
              refine ⟨hS, fun hS => ?_⟩
              refine GW.two 12 18 (by kernel_rfl) ?_ ?_
              · refine GO.call 12 rfl rfl rfl rfl (c4 wr.drew) ?_
                rintro _ _ ⟨rfl, rfl⟩
                refine ⟨hS, fun hS => ?_⟩
                refine GW.two 15 18 (by kernel_rfl) ?_ ?_
                · refine GO.call 15 rfl rfl rfl rfl (c6 wr.drew) ?_
                  rintro _ _ ⟨rfl, rfl⟩
                  refine ⟨hS, fun hS => ?_⟩
                  refine GW.val 16 rfl (by kernel_rfl) (by kernel_rfl) (by kernel_rfl) rfl rfl hS (fun w' hS' => by first | exact EX.convN (m := 4294967295) Tryz.underlying3 Tryz.underlying68 rfl rfl (by omega) | exact EX.convW (m := 4294967296) Tryz.underlying3 Tryz.underlying68 rfl rfl (by decide) | exact EX.convZ Tryz.underlying3 Tryz.underlying68 rfl) ?_
                  refine GW.val 17 rfl (by kernel_rfl) (by kernel_rfl) (by kernel_rfl) rfl rfl hS (fun w' hS' => EX.buildS (pl := [(0, 1), (1, 1), (2, 1), (3, 1), (4, 1)]) (ks := [0, 1, 2, 3, 4]) (is := [0, 1, 2, 3, 4]) (zs := [str [], .int .i64 0, .int .i64 0, .int .i64 0, .int .u32 0]) Tryz.underlying70 ti70 (by kernel_rfl) rfl rfl rfl (by first | rfl | (simp only [List.all_cons, List.all_nil, Bool.and_true, Bool.true_and, Bool.and_eq_true, Value.oneCell']; repeat (first | assumption | exact Own.one (by assumption) | constructor))) (by simp only [setAll, List.set_cons_zero, List.set_cons_succ]; rfl)) ?_
                  refine GW.allocB (l := [str [], .int .i64 0, .int .i64 0, .int .i64 0, .int .u32 0]) 18 rfl (by kernel_rfl) rfl rfl ti70 rfl ?_
                  rintro xb w18 hge18 h18 hx18
                  have hne : ∀ k, v.ownBlock = some k → k ≠ xb := fun k hk => (by have := (hown.lt k hk).2; omega)
                  have hxge : w.heap.size ≤ xb := (by have := hS.size; omega)
                  refine ⟨hS.trans hx18, fun hS => ?_⟩
                  have hown := hown.ext hx18
                  refine GW.storeS 19 rfl (by kernel_rfl) rfl ti70 rfl rfl rfl (by first | rfl | (simp only [List.all_cons, List.all_nil, Bool.and_true, Bool.true_and, Bool.and_eq_true, Value.oneCell']; repeat (first | assumption | constructor))) (h18) (by simp) ?_
                  rintro w19 hb19 hm19
                  refine ⟨below_mo hS hm19 hS.size (fun k hk => by simp at hk; omega), fun hS => ?_⟩
                  have hown := hown.mo hm19 (fun k hk => by simpa using hne k hk)
                  refine GW.done (by kernel_rfl) ?_
                  refine KW.meet2 xb w19 ⟨rfl, rfl, rfl, rfl, trivial⟩ rfl ?_
                  exact ⟨hS, hxge, by rw [hM, ← pn]; exact hb19, hown⟩
                · refine GO.allocB (l := [str [], .int .i64 0, .int .i64 0, .int .i64 0, .int .u32 0]) 18 rfl rfl rfl ti70 rfl ?_
                  rintro xb w18 hge18 h18 hx18
                  have hne : ∀ k, v.ownBlock = some k → k ≠ xb := fun k hk => (by have := (hown.lt k hk).2; omega)
                  have hxge : w.heap.size ≤ xb := (by have := hS.size; omega)
                  refine ⟨hS.trans hx18, fun hS => ?_⟩
                  have hown := hown.ext hx18
                  refine GW.call 15 rfl (by kernel_rfl) rfl rfl rfl (c6 w18) ?_
                  rintro _ _ ⟨rfl, rfl⟩
                  refine ⟨hS, fun hS => ?_⟩
                  refine GW.val 16 rfl (by kernel_rfl) (by kernel_rfl) (by kernel_rfl) rfl rfl hS (fun w' hS' => by first | exact EX.convN (m := 4294967295) Tryz.underlying3 Tryz.underlying68 rfl rfl (by omega) | exact EX.convW (m := 4294967296) Tryz.underlying3 Tryz.underlying68 rfl rfl (by decide) | exact EX.convZ Tryz.underlying3 Tryz.underlying68 rfl) ?_
                  refine GW.val 17 rfl (by kernel_rfl) (by kernel_rfl) (by kernel_rfl) rfl rfl hS (fun w' hS' => EX.buildS (pl := [(0, 1), (1, 1), (2, 1), (3, 1), (4, 1)]) (ks := [0, 1, 2, 3, 4]) (is := [0, 1, 2, 3, 4]) (zs := [str [], .int .i64 0, .int .i64 0, .int .i64 0, .int .u32 0]) Tryz.underlying70 ti70 (by kernel_rfl) rfl rfl rfl (by first | rfl | (simp only [List.all_cons, List.all_nil, Bool.and_true, Bool.true_and, Bool.and_eq_true, Value.oneCell']; repeat (first | assumption | exact Own.one (by assumption) | constructor))) (by simp only [setAll, List.set_cons_zero, List.set_cons_succ]; rfl)) ?_
                  refine GW.storeS 19 rfl (by kernel_rfl) rfl ti70 rfl rfl rfl (by first | rfl | (simp only [List.all_cons, List.all_nil, Bool.and_true, Bool.true_and, Bool.and_eq_true, Value.oneCell']; repeat (first | assumption | constructor))) (h18) (by simp) ?_
                  rintro w19 hb19 hm19
                  refine ⟨below_mo hS hm19 hS.size (fun k hk => by simp at hk; omega), fun hS => ?_⟩
                  have hown := hown.mo hm19 (fun k hk => by simpa using hne k hk)
                  refine GW.done (by kernel_rfl) ?_
                  refine KW.meet2 xb w19 ⟨rfl, rfl, rfl, rfl, trivial⟩ rfl ?_
                  exact ⟨hS, hxge, by rw [hM, ← pn]; exact hb19, hown⟩
              · refine GO.allocB (l := [str [], .int .i64 0, .int .i64 0, .int .i64 0, .int .u32 0]) 18 rfl rfl rfl ti70 rfl ?_
                rintro xb w18 hge18 h18 hx18
                have hne : ∀ k, v.ownBlock = some k → k ≠ xb := fun k hk => (by have := (hown.lt k hk).2; omega)
                have hxge : w.heap.size ≤ xb := (by have := hS.size; omega)
                refine ⟨hS.trans hx18, fun hS => ?_⟩
                have hown := hown.ext hx18
                refine GW.call 12 rfl (by kernel_rfl) rfl rfl rfl (c4 w18) ?_
                rintro _ _ ⟨rfl, rfl⟩
                refine ⟨hS, fun hS => ?_⟩
                refine GW.call 15 rfl (by kernel_rfl) rfl rfl rfl (c6 w18) ?_
                rintro _ _ ⟨rfl, rfl⟩
                refine ⟨hS, fun hS => ?_⟩
                refine GW.val 16 rfl (by kernel_rfl) (by kernel_rfl) (by kernel_rfl) rfl rfl hS (fun w' hS' => by first | exact EX.convN (m := 4294967295) Tryz.underlying3 Tryz.underlying68 rfl rfl (by omega) | exact EX.convW (m := 4294967296) Tryz.underlying3 Tryz.underlying68 rfl rfl (by decide) | exact EX.convZ Tryz.underlying3 Tryz.underlying68 rfl) ?_
                refine GW.val 17 rfl (by kernel_rfl) (by kernel_rfl) (by kernel_rfl) rfl rfl hS (fun w' hS' => EX.buildS (pl := [(0, 1), (1, 1), (2, 1), (3, 1), (4, 1)]) (ks := [0, 1, 2, 3, 4]) (is := [0, 1, 2, 3, 4]) (zs := [str [], .int .i64 0, .int .i64 0, .int .i64 0, .int .u32 0]) Tryz.underlying70 ti70 (by kernel_rfl) rfl rfl rfl (by first | rfl | (simp only [List.all_cons, List.all_nil, Bool.and_true, Bool.true_and, Bool.and_eq_true, Value.oneCell']; repeat (first | assumption | exact Own.one (by assumption) | constructor))) (by simp only [setAll, List.set_cons_zero, List.set_cons_succ]; rfl)) ?_
                refine GW.storeS 19 rfl (by kernel_rfl) rfl ti70 rfl rfl rfl (by first | rfl | (simp only [List.all_cons, List.all_nil, Bool.and_true, Bool.true_and, Bool.and_eq_true, Value.oneCell']; repeat (first | assumption | constructor))) (h18) (by simp) ?_
                rintro w19 hb19 hm19
                refine ⟨below_mo hS hm19 hS.size (fun k hk => by simp at hk; omega), fun hS => ?_⟩
                have hown := hown.mo hm19 (fun k hk => by simpa using hne k hk)
                refine GW.done (by kernel_rfl) ?_
                refine KW.meet2 xb w19 ⟨rfl, rfl, rfl, rfl, trivial⟩ rfl ?_
                exact ⟨hS, hxge, by rw [hM, ← pn]; exact hb19, hown⟩
            · refine GO.allocB (l := [str [], .int .i64 0, .int .i64 0, .int .i64 0, .int .u32 0]) 18 rfl rfl rfl ti70 rfl ?_
              rintro xb w18 hge18 h18 hx18
              have hne : ∀ k, v.ownBlock = some k → k ≠ xb := fun k hk => (by have := (hown.lt k hk).2; omega)
              have hxge : w.heap.size ≤ xb := (by have := hS.size; omega)
              refine ⟨hS.trans hx18, fun hS => ?_⟩
              have hown := hown.ext hx18
              refine GW.call 9 rfl (by kernel_rfl) rfl rfl rfl (c2 w18) ?_
              rintro _ _ ⟨rfl, rfl⟩
              refine ⟨hS, fun hS => ?_⟩
              refine GW.call 12 rfl (by kernel_rfl) rfl rfl rfl (c4 w18) ?_
              rintro _ _ ⟨rfl, rfl⟩
              refine ⟨hS, fun hS => ?_⟩
              refine GW.call 15 rfl (by kernel_rfl) rfl rfl rfl (c6 w18) ?_
              rintro _ _ ⟨rfl, rfl⟩
              refine ⟨hS, fun hS => ?_⟩
              refine GW.val 16 rfl (by kernel_rfl) (by kernel_rfl) (by kernel_rfl) rfl rfl hS (fun w' hS' => by first | exact EX.convN (m := 4294967295) Tryz.underlying3 Tryz.underlying68 rfl rfl (by omega) | exact EX.convW (m := 4294967296) Tryz.underlying3 Tryz.underlying68 rfl rfl (by decide) | exact EX.convZ Tryz.underlying3 Tryz.underlying68 rfl) ?_
              refine GW.val 17 rfl (by kernel_rfl) (by kernel_rfl) (by kernel_rfl) rfl rfl hS (fun w' hS' => EX.buildS (pl := [(0, 1), (1, 1), (2, 1), (3, 1), (4, 1)]) (ks := [0, 1, 2, 3, 4]) (is := [0, 1, 2, 3, 4]) (zs := [str [], .int .i64 0, .int .i64 0, .int .i64 0, .int .u32 0]) Tryz.underlying70 ti70 (by kernel_rfl) rfl rfl rfl (by first | rfl | (simp only [List.all_cons, List.all_nil, Bool.and_true, Bool.true_and, Bool.and_eq_true, Value.oneCell']; repeat (first | assumption | exact Own.one (by assumption) | constructor))) (by simp only [setAll, List.set_cons_zero, List.set_cons_succ]; rfl)) ?_
              refine GW.storeS 19 rfl (by kernel_rfl) rfl ti70 rfl rfl rfl (by first | rfl | (simp only [List.all_cons, List.all_nil, Bool.and_true, Bool.true_and, Bool.and_eq_true, Value.oneCell']; repeat (first | assumption | constructor))) (h18) (by simp) ?_
              rintro w19 hb19 hm19
              refine ⟨below_mo hS hm19 hS.size (fun k hk => by simp at hk; omega), fun hS => ?_⟩
              have hown := hown.mo hm19 (fun k hk => by simpa using hne k hk)
              refine GW.done (by kernel_rfl) ?_
              refine KW.meet2 xb w19 ⟨rfl, rfl, rfl, rfl, trivial⟩ rfl ?_
              exact ⟨hS, hxge, by rw [hM, ← pn]; exact hb19, hown⟩
          · refine GO.allocB (l := [str [], .int .i64 0, .int .i64 0, .int .i64 0, .int .u32 0]) 18 rfl rfl rfl ti70 rfl ?_
            rintro xb w18 hge18 h18 hx18
            have hne : ∀ k, v.ownBlock = some k → k ≠ xb := fun k hk => (by have := (hown.lt k hk).2; omega)
            have hxge : w.heap.size ≤ xb := (by have := hS.size; omega)
            refine ⟨hS.trans hx18, fun hS => ?_⟩
            have hown := hown.ext hx18
            refine GW.call 6 rfl (by kernel_rfl) rfl rfl rfl (c0 w18) ?_
            rintro _ _ ⟨rfl, rfl⟩
            refine ⟨hS, fun hS => ?_⟩
            refine GW.call 9 rfl (by kernel_rfl) rfl rfl rfl (c2 w18) ?_
            rintro _ _ ⟨rfl, rfl⟩
            refine ⟨hS, fun hS => ?_⟩
            refine GW.call 12 rfl (by kernel_rfl) rfl rfl rfl (c4 w18) ?_
            rintro _ _ ⟨rfl, rfl⟩
            refine ⟨hS, fun hS => ?_⟩
            refine GW.call 15 rfl (by kernel_rfl) rfl rfl rfl (c6 w18) ?_
            rintro _ _ ⟨rfl, rfl⟩
            refine ⟨hS, fun hS => ?_⟩
            refine GW.val 16 rfl (by kernel_rfl) (by kernel_rfl) (by kernel_rfl) rfl rfl hS (fun w' hS' => by first | exact EX.convN (m := 4294967295) Tryz.underlying3 Tryz.underlying68 rfl rfl (by omega) | exact EX.convW (m := 4294967296) Tryz.underlying3 Tryz.underlying68 rfl rfl (by decide) | exact EX.convZ Tryz.underlying3 Tryz.underlying68 rfl) ?_
            refine GW.val 17 rfl (by kernel_rfl) (by kernel_rfl) (by kernel_rfl) rfl rfl hS (fun w' hS' => EX.buildS (pl := [(0, 1), (1, 1), (2, 1), (3, 1), (4, 1)]) (ks := [0, 1, 2, 3, 4]) (is := [0, 1, 2, 3, 4]) (zs := [str [], .int .i64 0, .int .i64 0, .int .i64 0, .int .u32 0]) Tryz.underlying70 ti70 (by kernel_rfl) rfl rfl rfl (by first | rfl | (simp only [List.all_cons, List.all_nil, Bool.and_true, Bool.true_and, Bool.and_eq_true, Value.oneCell']; repeat (first | assumption | exact Own.one (by assumption) | constructor))) (by simp only [setAll, List.set_cons_zero, List.set_cons_succ]; rfl)) ?_
            refine GW.storeS 19 rfl (by kernel_rfl) rfl ti70 rfl rfl rfl (by first | rfl | (simp only [List.all_cons, List.all_nil, Bool.and_true, Bool.true_and, Bool.and_eq_true, Value.oneCell']; repeat (first | assumption | constructor))) (h18) (by simp) ?_
            rintro w19 hb19 hm19
            refine ⟨below_mo hS hm19 hS.size (fun k hk => by simp at hk; omega), fun hS => ?_⟩
            have hown := hown.mo hm19 (fun k hk => by simpa using hne k hk)
            refine GW.done (by kernel_rfl) ?_
            refine KW.meet2 xb w19 ⟨rfl, rfl, rfl, rfl, trivial⟩ rfl ?_
            exact ⟨hS, hxge, by rw [hM, ← pn]; exact hb19, hown⟩
        · rintro xb w2 ⟨x2, hxge, hb2, hown2⟩
          have hdl11 : (q.drop (11 + n)).length = q.length - (11 + n) := List.length_drop ..
          refine KW.seq (KW.seq (KW.region ?_))
          refine OW.val rfl rfl (EX.loadBk Tryz.underlying70 rfl ti70 rfl (hb2) (rfl)) ?_
          refine OW.call rfl rfl rfl (rcheckM_s (memAt q) (memAt_ok q hql) w2) ?_
          rintro _ we ⟨rfl, hxe⟩
          refine OW.val rfl rfl (by first | exact EX.neqN (b := 0) rfl rfl | exact EX.neqZ rfl rfl) ?_
          refine OW.nil ?_
          have hbe := hb2.ext hxe
          have howne := hown2.ext hxe
          have xe := x2.trans hxe
          by_cases hmay : mayM (memAt q)
          · rw [checkM_some hmay]
            rw [if_pos hmay] at hm
            refine KW.condD rfl (fun hz => ?_) (fun hz => ?_)
            · omega
            · refine KW.skip (KW.seq (KW.region ?_))
              refine OW.val rfl rfl (EX.move rfl) ?_
              refine OW.val rfl rfl (EX.loadBk Tryz.underlying70 rfl ti70 rfl (hbe) (rfl)) ?_
              refine OW.pushS rfl rfl (fun _ => rfl) rfl Tryz.underlying22 ti70 rfl (by decide) (by decide) rfl rfl (fun _ => rfl) (by first | rfl | assumption | (simp only [List.all_cons, List.all_nil, Bool.and_true, Bool.true_and, Bool.and_eq_true, Value.oneCell']; repeat (first | assumption | constructor))) (xe) (howne) (by simp only [maxLen]; omega) (by omega) ?_
              rintro _ v2 wf hownf xf hgf
              refine OW.val rfl rfl (EX.assign rfl) ?_
              refine OW.nil ?_
              refine KW.region ?_
              refine OW.val rfl rfl (EX.move rfl) ?_
              refine OW.val rfl rfl (EX.move rfl) ?_
              refine OW.val rfl rfl (by first | exact EX.addN (a := 11) (m := 9223372036854775807) rfl rfl rfl (by omega) | exact EX.addZ (m := 9223372036854775807) rfl rfl rfl rfl (by omega)) ?_
              refine OW.val rfl rfl (EX.sliceLE Tryz.underlying9 rfl rfl (by omega)) ?_
              refine OW.val rfl rfl (EX.assign rfl) ?_
              refine OW.nil ?_
              refine KW.leave ?_
              refine KW.back5 (f) (q.drop (11 + n)) (out ++ [memAt q]) (v2) (wf) ⟨rfl, rfl, trivial⟩ rfl ?_ (by omega)
              refine ⟨by omega, by omega, by rw [List.length_append, List.length_singleton]; omega, hm, ?_, xf⟩
              rw [List.length_append, memsV_snoc]
              exact hownf
          · rw [checkM_none hmay]
            rw [if_neg hmay] at hm
            subst hm
            refine KW.condD rfl (fun hz => ?_) (fun hz => ?_)
            · refine KW.seq (KW.region ?_)
              refine OW.val rfl rfl (EX.assign rfl) ?_
              refine OW.val rfl rfl (EX.assign rfl) ?_
              refine OW.nil ?_
              refine KW.ret (ret2 rfl rfl rfl ?_)
              exact ⟨_, rfl, Own.nil _ _ _ _, xe⟩
            · omega
    · have hq0 : q = [] := by simpa using hne
      obtain ⟨f, rfl⟩ : ∃ g, f = g + 1 := ⟨f - 1, by omega⟩
      rw [memL, if_pos hq0] at hm
      subst hm
      refine KW.exit rfl (KW.seq (KW.region ?_))
      refine OW.val rfl rfl (EX.move rfl) ?_
      refine OW.val rfl rfl (EX.assign rfl) ?_
      refine OW.val rfl rfl (EX.assign rfl) ?_
      refine OW.nil ?_
      refine KW.ret (ret2 rfl rfl rfl ?_)
      exact ⟨_, rfl, hown, hx⟩
end Go.Proofs.YthgfdpcpbghkpaaGreatDoor
namespace Go.Proofs.YthgfdpcpbghkpaaGreatDoor
open Go.RowKit Rec
def allT (l : List M) : List UInt8 := l.flatMap memberT
theorem allT_snoc (l : List M) (m : M) : allT (l ++ [m]) = allT l ++ memberT m := by simp [allT]
theorem memberT_length (m : M) : (memberT m).length = m.path.length + 11 := by
  unfold memberT
  simp only [List.length_append, be_length]
  omega
theorem memberT_read {m : M} (h : mayM m) (hs : m.sum ≤ 4294967295) (r : List UInt8) : memAt (memberT m ++ r) = m ∧ first (memberT m ++ r) = m.path.length ∧ (memberT m ++ r).drop (11 + m.path.length) = r := by
  obtain ⟨hp, _⟩ := may_path h
  obtain ⟨_, h1, h2, h3, h4, h5, h6⟩ := h
  have e : memberT m ++ r = [UInt8.ofNat m.path.length] ++ (m.path ++ (be 2 m.start.toNat ++ (be 2 m.sectors.toNat ++ (be 2 m.size.toNat ++ (be 4 m.sum ++ r))))) := by
    unfold memberT
    rw [be_one _ (by omega)]
    simp only [List.append_assoc]
  have hf : first (memberT m ++ r) = m.path.length := by
    rw [e]
    show (UInt8.ofNat m.path.length).toNat = _
    simp
    omega
  have d1 : (memberT m ++ r).drop 1 = m.path ++ (be 2 m.start.toNat ++ (be 2 m.sectors.toNat ++ (be 2 m.size.toNat ++ (be 4 m.sum ++ r)))) := by rw [e]; rfl
  have d2 := drop_more d1 rfl (j := 1 + m.path.length) rfl
  have d3 := drop_more d2 (be_length 2 _) (j := 3 + m.path.length) (by omega)
  have d4 := drop_more d3 (be_length 2 _) (j := 5 + m.path.length) (by omega)
  have d5 := drop_more d4 (be_length 2 _) (j := 7 + m.path.length) (by omega)
  have d6 := drop_more d5 (be_length 4 _) (j := 11 + m.path.length) (by omega)
  refine ⟨?_, hf, d6⟩
  obtain ⟨mp, ms, mse, msz, msu⟩ := m
  simp only at h1 h2 h3 h4 h5 h6 hs d1 d2 d3 d4 d5 hf
  unfold memAt
  rw [hf, d1, d2, d3, d4, d5, List.take_left' rfl, List.take_left' (be_length _ _), List.take_left' (be_length _ _), List.take_left' (be_length _ _), List.take_left' (be_length _ _),
    nb_be 2 _ (by simp only [Nat.reducePow]; omega), nb_be 2 _ (by simp only [Nat.reducePow]; omega), nb_be 2 _ (by simp only [Nat.reducePow]; omega), nb_be 4 _ (by simp only [Nat.reducePow]; omega)]
  simp only [M.mk.injEq, true_and, and_true]
  omega
theorem memL_back : ∀ (l : List M) (f : Nat) (out : List M), (∀ m ∈ l, mayM m ∧ m.sum ≤ 4294967295) → (allT l).length < f → memL f (allT l) out = (out ++ l, 0)
  | [], f, out, _, hf => by
    obtain ⟨g, rfl⟩ : ∃ g, f = g + 1 := ⟨f - 1, by omega⟩
    rw [memL, if_pos (show allT [] = [] from rfl), List.append_nil]
  | m :: l, f, out, hl, hf => by
    obtain ⟨g, rfl⟩ : ∃ g, f = g + 1 := ⟨f - 1, by omega⟩
    obtain ⟨h1, h2⟩ := hl m (by simp)
    have e : allT (m :: l) = memberT m ++ allT l := by simp [allT]
    obtain ⟨r1, r2, r3⟩ := memberT_read h1 h2 (allT l)
    rw [e] at hf ⊢
    rw [List.length_append, memberT_length] at hf
    have hlen : (memberT m ++ allT l).length = m.path.length + 11 + (allT l).length := by rw [List.length_append, memberT_length]
    rw [memL, if_neg (fun z => by rw [z] at hlen; simp only [List.length_nil] at hlen; omega), r2, if_neg (by omega), r1, if_pos h1, r3, memL_back l g _ (fun x hx => hl x (by simp [hx])) (by omega)]
    simp
theorem allT_len : ∀ l : List M, (∀ m ∈ l, mayM m) → (allT l).length ≤ l.length * 131
  | [], _ => by simp [allT]
  | m :: l, h => by
    have ih := allT_len l (fun x hx => h x (by simp [hx]))
    have h1 := (may_path (h m (by simp))).1
    have e : allT (m :: l) = memberT m ++ allT l := by simp [allT]
    rw [e, List.length_append, memberT_length, List.length_cons]
    omega
end Go.Proofs.YthgfdpcpbghkpaaGreatDoor
namespace Go.Proofs.YthgfdpcpbghkpaaGreatDoor.Cat
open Pth Rec Srt
abbrev Xt := Int × Int
def fitX (cap : Int) (x : Xt) : Prop := 30 ≤ x.1 ∧ 1 ≤ x.2 ∧ x.1 ≤ cap ∧ x.2 ≤ cap - x.1
instance (cap : Int) (x : Xt) : Decidable (fitX cap x) := by unfold fitX; infer_instance
def apart (x y : Xt) : Prop := x.1 + x.2 ≤ y.1 ∨ y.1 + y.2 ≤ x.1
instance (x y : Xt) : Decidable (apart x y) := by unfold apart; infer_instance
theorem apart_symm {x y : Xt} (h : apart x y) : apart y x := h.symm
structure OkX (l : List Xt) (cap : Int) : Prop where
  room : 1 ≤ cap ∧ cap ≤ 4096
  fit : ∀ x ∈ l, fitX cap x
  far : l.Pairwise apart
instance (l : List Xt) (cap : Int) : Decidable (OkX l cap) :=
  decidable_of_iff ((1 ≤ cap ∧ cap ≤ 4096) ∧ (∀ x ∈ l, fitX cap x) ∧ l.Pairwise apart) ⟨fun h => ⟨h.1, h.2.1, h.2.2⟩, fun h => ⟨h.room, h.fit, h.far⟩⟩
def spaceC (l : List Xt) (cap : Int) : Nat := if OkX l cap then 0 else 220
theorem okX_perm {l l' : List Xt} {cap : Int} (h : l'.Perm l) : OkX l' cap ↔ OkX l cap :=
  ⟨fun q => ⟨q.room, fun x hx => q.fit x (h.mem_iff.2 hx), (h.pairwise_iff apart_symm).1 q.far⟩, fun q => ⟨q.room, fun x hx => q.fit x (h.mem_iff.1 hx), (h.pairwise_iff apart_symm).2 q.far⟩⟩
def cfX (a b : Xt) : Int := if a = b then 0 else if a.1 < b.1 ∨ (a.1 = b.1 ∧ a.2 < b.2) then -1 else 1
theorem cfX_lt (a b : Xt) : cfX a b < 0 ↔ (a.1 < b.1 ∨ (a.1 = b.1 ∧ a.2 < b.2)) := by
  obtain ⟨a1, a2⟩ := a
  obtain ⟨b1, b2⟩ := b
  unfold cfX
  simp only [Prod.mk.injEq]
  split
  · rename_i h
    omega
  · split
    · rename_i h1 h2
      exact ⟨fun _ => h2, fun _ => by omega⟩
    · rename_i h1 h2
      exact ⟨fun q => by omega, fun q => absurd q h2⟩
theorem swoX : Go.Sort.SWO (fun a b : Xt => decide (cfX a b < 0)) where
  irrefl x := by
    rw [decide_eq_false_iff_not, cfX_lt]
    omega
  trans x y z h1 h2 := by
    rw [decide_eq_true_eq, cfX_lt] at *
    omega
  ntrans x y z h1 h2 := by
    rw [decide_eq_false_iff_not, cfX_lt] at *
    omega
structure Upto (l : List Xt) (cap at_ : Int) : Prop where
  fit : ∀ x ∈ l, fitX cap x
  chain : l.Pairwise (fun x y => x.1 + x.2 ≤ y.1)
  below : ∀ x ∈ l, x.1 + x.2 ≤ at_
  last : at_ = 30 ∨ ∃ x ∈ l, at_ = x.1 + x.2
  low : 30 ≤ at_ ∧ at_ ≤ 30 + 4096
theorem Upto.nil (cap : Int) : Upto [] cap 30 := ⟨by simp, List.Pairwise.nil, by simp, .inl rfl, by omega⟩
theorem Upto.snoc {l : List Xt} {cap at_ : Int} (hc : 1 ≤ cap ∧ cap ≤ 4096) (h : Upto l cap at_) {x : Xt} (h1 : ¬ x.1 < at_) (h2 : ¬ x.2 < 1) (h3 : ¬ x.1 > cap) (h4 : ¬ x.2 > cap - x.1) : Upto (l ++ [x]) cap (x.1 + x.2) := by
  have hl := h.low
  refine ⟨fun y hy => ?_, ?_, fun y hy => ?_, .inr ⟨x, by simp, rfl⟩, by omega⟩
  · rcases List.mem_append.1 hy with hy | hy
    · exact h.fit y hy
    · simp only [List.mem_singleton] at hy
      subst hy
      exact ⟨by omega, by omega, by omega, by omega⟩
  · rw [List.pairwise_append]
    refine ⟨h.chain, by simp, fun a ha b hb => ?_⟩
    simp only [List.mem_singleton] at hb
    subst hb
    have := h.below a ha
    omega
  · rcases List.mem_append.1 hy with hy | hy
    · have := h.below y hy
      omega
    · simp only [List.mem_singleton] at hy
      subst hy
      omega
theorem Upto.done {l : List Xt} {cap at_ : Int} (hc : 1 ≤ cap ∧ cap ≤ 4096) (h : Upto l cap at_) : OkX l cap := ⟨hc, h.fit, h.chain.imp fun q => .inl q⟩
theorem Upto.fail {l : List Xt} {cap at_ : Int} {x : Xt} {r : List Xt} (h : Upto l cap at_) (hs : ∀ y ∈ l, ¬ cfX x y < 0) (hb : x.1 < at_ ∨ x.2 < 1 ∨ x.1 > cap ∨ x.2 > cap - x.1) : ¬ OkX (l ++ x :: r) cap := fun q => by
  have hf := q.fit x (by simp)
  unfold fitX at hf
  rcases hb with hb | hb
  · rcases h.last with e | ⟨y, hy, e⟩
    · omega
    · have h1 := (List.pairwise_append.1 q.far).2.2 y hy x (by simp)
      have h2 := hs y hy
      rw [cfX_lt] at h2
      have h3 := h.fit y hy
      unfold fitX at h3
      rcases h1 with h1 | h1
      · omega
      · omega
  · omega
def inX (x : Xt) (k : Int) : Bool := decide (x.1 ≤ k ∧ k < x.1 + x.2)
def marked (l : List Xt) (k : Int) : Bool := l.any (fun x => inX x k)
theorem marked_snoc (l : List Xt) (x : Xt) (k : Int) : marked (l ++ [x]) k = (marked l k || inX x k) := by simp [marked]
theorem apart_of_not {x y : Xt} (hx : 1 ≤ x.2) (hy : 1 ≤ y.2) (h : ∀ k, inX x k = true → inX y k = false) : apart y x := by
  unfold apart
  by_cases c : y.1 + y.2 ≤ x.1
  · exact .inl c
  · by_cases c2 : x.1 + x.2 ≤ y.1
    · exact .inr c2
    · exfalso
      rcases Int.le_total x.1 y.1 with q | q
      · have := h y.1 (by unfold inX; rw [decide_eq_true_eq]; omega)
        unfold inX at this
        rw [decide_eq_false_iff_not] at this
        omega
      · have := h x.1 (by unfold inX; rw [decide_eq_true_eq]; omega)
        unfold inX at this
        rw [decide_eq_false_iff_not] at this
        omega
theorem not_apart {x y : Xt} {k : Int} (h1 : inX x k = true) (h2 : inX y k = true) : ¬ apart y x := by
  unfold inX at h1 h2
  rw [decide_eq_true_eq] at h1 h2
  unfold apart
  omega
def exts (l : List M) : List Xt := l.map fun m => (m.start, m.sectors)
abbrev mkey (m : M) : List UInt8 := m.path
structure OkC (l : List M) (cap : Int) : Prop where
  len : l.length ≤ 16
  may : ∀ m ∈ l, mayM m
  rises : Rises mkey l
  ext : OkX (exts l) cap
theorem checkM_iff (m : M) : checkM m = 0 ↔ mayM m := by
  unfold checkM
  split
  · rename_i h; exact ⟨fun _ => h, fun _ => rfl⟩
  · rename_i h; exact ⟨(fun q => by cases q), fun q => absurd q h⟩
noncomputable def chkC (l : List M) (cap : Int) : Nat := open Classical in if OkC l cap then 0 else 230
theorem chkC_ok {l : List M} {cap : Int} (h : OkC l cap) : chkC l cap = 0 := by unfold chkC; rw [if_pos h]
theorem chkC_no {l : List M} {cap : Int} (h : ¬ OkC l cap) : chkC l cap = 230 := by unfold chkC; rw [if_neg h]
theorem rises_snoc {l : List M} {m : M} (h : Rises mkey l) (hl : ∀ p, l.getLast? = some p → cmpP p.path m.path = -1) : Rises mkey (l ++ [m]) := by
  unfold Rises at *
  rw [List.pairwise_append]
  refine ⟨h, by simp, fun a ha b hb => ?_⟩
  simp only [List.mem_singleton] at hb
  subst hb
  rcases List.eq_nil_or_concat l with e | ⟨q, p, e⟩
  · subst e; cases ha
  · rw [List.concat_eq_append] at e
    subst e
    have h1 : cmpK mkey p b = -1 := hl p (by simp)
    rcases List.mem_append.1 ha with ha | ha
    · have h2 := (List.pairwise_append.1 h).2.2 a ha p (by simp)
      exact cmpK_lt mkey h2 (by omega)
    · simp only [List.mem_singleton] at ha
      subst ha
      exact h1
end Go.Proofs.YthgfdpcpbghkpaaGreatDoor.Cat
namespace Go.Proofs.YthgfdpcpbghkpaaGreatDoor
open Go.RowKit
theorem flat_get {α : Type} {cells : α → List Value} {c : Nat} (hc : ∀ a, (cells a).length = c) : ∀ (l : List α) (i j : Nat) (hi : i < l.length) (u : Value), (cells l[i])[j]? = some u → (l.flatMap cells)[i * c + j]? = some u
  | a :: l, 0, j, hi, u, hu => by
    have hj : j < (cells a).length := (List.getElem?_eq_some_iff.1 hu).1
    rw [Nat.zero_mul, Nat.zero_add, List.flatMap_cons, List.getElem?_append_left hj]
    exact hu
  | a :: l, i + 1, j, hi, u, hu => by
    rw [List.flatMap_cons, List.getElem?_append_right (by rw [hc, Nat.succ_mul]; omega), hc, show (i + 1) * c + j - c = i * c + j by rw [Nat.succ_mul]; omega]
    exact flat_get hc l i j (by simpa using hi) u hu
theorem Sl.flat {α : Type} {cells : α → List Value} {c : Nat} {w : World} {B : Nat} {A : Option Addr} {l : List α} (h : Sl w B A (l.flatMap cells)) (hc : ∀ a, (cells a).length = c) (h0 : 0 < c) {i : Nat} (hi : i < l.length) :
    ∃ b o, A = some ⟨b, o, none⟩ ∧ b < B ∧ ∀ j u, (cells l[i])[j]? = some u → w.cell? ⟨b, o + i * c + j, none⟩ = some u := by
  have hlt : 0 < (cells l[i]).length := by rw [hc]; exact h0
  have hp : 0 < (l.flatMap cells).length := by
    have := (List.getElem?_eq_some_iff.1 (flat_get hc l i 0 hi _ (List.getElem?_eq_getElem hlt))).1
    omega
  obtain ⟨b, o, e, hb, hcell⟩ := h.at_ hp
  exact ⟨b, o, e, hb, fun j u hu => by rw [Nat.add_assoc]; exact hcell _ _ (flat_get hc l i j hi u hu)⟩
theorem fold_at (off : Nat) : ∀ (vs : List Value) (k : Nat) (pre post : List Value), pre.length = off + k → vs.length ≤ post.length →
    (vs.zipIdx k).foldl (fun (cs : Array Value) (x : Value × Nat) => cs.setIfInBounds (off + x.2) x.1) (pre ++ post).toArray = (pre ++ vs ++ post.drop vs.length).toArray
  | [], k, pre, post, _, _ => by simp
  | v :: vs, k, pre, p :: post, hp, h => by
    have ih := fold_at off vs (k + 1) (pre ++ [v]) post (by simp [hp]; omega) (by simpa using h)
    have hset : (pre ++ p :: post).toArray.setIfInBounds (off + k) v = ((pre ++ [v]) ++ post).toArray := by simp [← hp]
    simp only [List.zipIdx_cons, List.foldl_cons]
    rw [hset, ih]
    simp
  | v :: vs, k, pre, [], hp, h => by simp at h
theorem fill_agg (s : Nat) : ∀ (vss : List (List Value)) (i : Nat) (pre post : List Value), pre.length = i * s → (∀ v ∈ vss, v.length = s) → post.length = vss.length * s →
    Instr.fill (fun i => some (i * s, s)) (pre ++ post).toArray ((vss.zipIdx i).map fun (v, j) => (j, Value.agg v.toArray)) = some (pre ++ vss.flatten).toArray
  | [], i, pre, post, hp, _, hl => by
    have : post = [] := List.eq_nil_of_length_eq_zero (by simpa using hl)
    subst this
    simp [Instr.fill]
  | v :: vss, i, pre, post, hp, h1, hl => by
    have hv := h1 v (by simp)
    have hl' : post.length = vss.length * s + s := by rw [hl, List.length_cons, Nat.succ_mul]
    have ih := fill_agg s vss (i + 1) (pre ++ v) (post.drop s) (by rw [List.length_append, hp, hv, Nat.succ_mul]) (fun u hu => h1 u (by simp [hu])) (by rw [List.length_drop]; omega)
    have hf := fold_at (i * s) v 0 pre post (by omega) (by omega)
    simp only [List.zipIdx_cons, List.map_cons, Instr.fill, Value.cells, List.size_toArray]
    have hn : ¬ (v.length ≠ s ∨ i * s + v.length > (pre ++ post).length) := by rw [List.length_append]; omega
    simp only [ne_eq, Bool.or_eq_true, decide_eq_true_eq]
    rw [if_neg (by simpa using hn)]
    have hz : v.toArray.zipIdx.foldl (fun cs (x : Value × Nat) => cs.setIfInBounds (i * s + x.2) x.1) (pre ++ post).toArray = ((pre ++ v) ++ post.drop s).toArray := by
      rw [← Array.foldl_toList, Array.toList_zipIdx]
      rw [hv] at hf
      exact hf
    rw [hz]
    simpa using ih
section
variable {P : Program} {n : Nat} {σ : Sig} {w w0 : World} {x y : Operand} {t e ty T : TypeId} {s bs : Nat} {R : Act → World → Prop} {ops : Array Oper} {rest : List Oper} {k : List KI} {pos : String} {after : Array Edge} {g : Option (Nat × Bool)} {d fuel : Nat} {S : World → Prop} {listed : Array Bool}
theorem EX.buildSliceG {z : Value} {parts : Array (Nat × Operand)} (len : Nat) (vss : List (List Value)) (ht : P.underlying t = some (.slice e)) (hi : TI P e z s bs) (hzs : z.cells.size = s) (hs0 : 0 < s)
    (hv : evs σ (parts.toList.map (·.2)) = some (vss.map fun v => Value.agg v.toArray)) (hp : parts.toList.map (·.1) = List.range' 0 parts.toList.length) (hl : vss.length = len) (h1 : ∀ v ∈ vss, v.length = s) (hlen : len * s ≤ 16777216) :
    EX P n σ (.buildSlice t len parts) ty w (.slice (some ⟨w.heap.size, 0, none⟩) len len) (w.alloc (.cells vss.flatten.toArray e)) := fun A ha dst pos after g => by
  have hpv : (parts.map fun (p : Nat × Operand) => (p.1, A.eval p.2)).toList = vss.zipIdx.map fun (v, j) => (j, Value.agg v.toArray) := by
    have h2 := ha.evs hv
    apply List.ext_getElem?
    intro j
    have e1 := congrArg (·[j]?) h2
    have e2 := congrArg (·[j]?) hp
    simp only [List.getElem?_map] at e1 e2
    simp only [Array.toList_map, List.getElem?_map, List.getElem?_zipIdx]
    have hlp : parts.toList.length = vss.length := by
      have := congrArg List.length h2
      simpa using this
    by_cases hj : j < vss.length
    · rw [List.getElem?_eq_getElem (by omega : j < parts.toList.length)] at e1 e2 ⊢
      rw [List.getElem?_eq_getElem hj] at e1 ⊢
      simp only [Option.map_some, Option.some.injEq] at e1 e2 ⊢
      rw [List.getElem?_range' (by omega)] at e2
      simp only [Option.some.injEq] at e2
      rw [e1, e2]
      simp
    · rw [List.getElem?_eq_none (by omega : parts.toList.length ≤ j), List.getElem?_eq_none (by omega : vss.length ≤ j)]
      rfl
  have hn : ¬ (len * s > 2 ^ 24) := by omega
  generalize hzz : ((Array.range (len * s)).map fun j => z.cells[j % z.cells.size]!) = zz
  have hzl : zz.size = len * s := by rw [← hzz]; simp
  obtain ⟨zl⟩ := zz
  have hf := fill_agg s vss 0 [] zl (by simp) h1 (by rw [hl]; simpa using hzl)
  simp only [List.nil_append] at hf
  simp only [execOp, Sem.run_bind]
  have hb : (Instr.buildSlice t len (parts.map fun (p : Nat × Operand) => (p.1, A.eval p.2))).run P w = .ok (.slice (some ⟨w.heap.size, 0, none⟩) len len) (w.alloc (.cells vss.flatten.toArray e)) := by
    simp only [Instr.buildSlice, Sem.run_bind, run_underlying ht, run_sizeOf hi, Result.andThen_ok, if_neg hn, hpv, Sem.run_pure]
    by_cases h0 : len * s = 0
    · have hlen0 : len = 0 := by
        rcases Nat.mul_eq_zero.1 h0 with h | h
        · exact h
        · omega
      subst hlen0
      have hv0 : vss = [] := List.eq_nil_of_length_eq_zero hl
      subst hv0
      simp [Instr.fill, newRow, newObj, Sem.run_bind, Sem.run, Array.range_zero']
    · rw [if_neg h0]
      simp only [Sem.run_bind, run_zeroValue hi, Result.andThen_ok, Sem.run_pure, hzz, hf]
      simp [newRow, newObj, Sem.run_bind, Sem.run]
  rw [show (parts.map fun (x : Nat × Operand) => match x with | (i, x) => (i, A.eval x)) = (parts.map fun (x : Nat × Operand) => (x.1, A.eval x.2)) from rfl, hb]
  rfl
theorem OW.buildG {z : Value} {parts : Array (Nat × Operand)} (len : Nat) (vss : List (List Value)) (hg : wantS ops σ g = some true) (hd : Nat.blt d n = true) (ht : P.underlying T = some (.slice e)) (hi : TI P e z s bs) (hzs : z.cells.size = s) (hs0 : 0 < s)
    (hv : evs σ (parts.toList.map (·.2)) = some (vss.map fun v => Value.agg v.toArray)) (hp : parts.toList.map (·.1) = List.range' 0 parts.toList.length) (hl : vss.length = len) (h1 : ∀ v ∈ vss, v.length = s) (hlen : len * s ≤ 16777216)
    (h : ∀ b w', w.heap.size ≤ b → Bk w' b e vss.flatten → Ext w w' → OW P R ops rest k n ((d, .slice (some ⟨b, 0, none⟩) len len) :: σ) w') : OW P R ops (⟨some d, .buildSlice T len parts, ty, pos, after, g⟩ :: rest) k n σ w :=
  OW.val hg hd (EX.buildSliceG len vss ht hi hzs hs0 hv hp hl h1 hlen) (h _ _ (Nat.le_refl _) (Bk.new w e _) (Ext.alloc w _))
theorem GW.buildG (i : Nat) {z : Value} {parts : Array (Nat × Operand)} (len : Nat) (vss : List (List Value)) (hi' : ops[i]? = some ⟨some d, .buildSlice T len parts, ty, pos, after, g⟩) (hr : Region.ready .any ops listed = [i]) (hg : wantS ops σ g = some true) (hd : Nat.blt d n = true) (ht : P.underlying T = some (.slice e)) (hi : TI P e z s bs) (hzs : z.cells.size = s) (hs0 : 0 < s)
    (hv : evs σ (parts.toList.map (·.2)) = some (vss.map fun v => Value.agg v.toArray)) (hp : parts.toList.map (·.1) = List.range' 0 parts.toList.length) (hl : vss.length = len) (h1 : ∀ v ∈ vss, v.length = s) (hlen : len * s ≤ 16777216)
    (h : ∀ b w', w.heap.size ≤ b → Bk w' b e vss.flatten → Ext w w' → S w' ∧ (S w' → GW P R ops S fuel (listed.setIfInBounds i true) k n ((d, .slice (some ⟨b, 0, none⟩) len len) :: σ) w')) : GW P R ops S (fuel + 1) listed k n σ w :=
  GW.new i hi' hr hg hd (EX.buildSliceG len vss ht hi hzs hs0 hv hp hl h1 hlen) (h _ _ (Nat.le_refl _) (Bk.new w e _) (Ext.alloc w _))
theorem GO.buildG (i : Nat) {z : Value} {parts : Array (Nat × Operand)} (len : Nat) (vss : List (List Value)) (hi' : ops[i]? = some ⟨some d, .buildSlice T len parts, ty, pos, after, g⟩) (hg : wantS ops σ g = some true) (hd : Nat.blt d n = true) (ht : P.underlying T = some (.slice e)) (hi : TI P e z s bs) (hzs : z.cells.size = s) (hs0 : 0 < s)
    (hv : evs σ (parts.toList.map (·.2)) = some (vss.map fun v => Value.agg v.toArray)) (hp : parts.toList.map (·.1) = List.range' 0 parts.toList.length) (hl : vss.length = len) (h1 : ∀ v ∈ vss, v.length = s) (hlen : len * s ≤ 16777216)
    (h : ∀ b w', w.heap.size ≤ b → Bk w' b e vss.flatten → Ext w w' → S w' ∧ (S w' → GW P R ops S fuel (listed.setIfInBounds i true) k n ((d, .slice (some ⟨b, 0, none⟩) len len) :: σ) w')) : GO P R ops S fuel listed k n σ w i :=
  GO.new i hi' hg hd (EX.buildSliceG len vss ht hi hzs hs0 hv hp hl h1 hlen) (h _ _ (Nat.le_refl _) (Bk.new w e _) (Ext.alloc w _))
end
end Go.Proofs.YthgfdpcpbghkpaaGreatDoor
namespace Go.Proofs.YthgfdpcpbghkpaaGreatDoor
open Go.RowKit
section
variable {P : Program} {n : Nat} {σ : Sig} {w : World} {x y : Operand} {t e ty T T' : TypeId} {b o : Nat} {z v : Value} {s bs : Nat} {l : List Value}
theorem run_eq_arr2 {a0 a1 b0 b1 : Value} {q0 q1 : Bool} {d : TypeDesc} (ht : P.underlying t = some (.array 2 e)) (he : P.underlying e = some d) (hf : flat d = true) (hi : TI P e z 1 bs)
    (h0 : ∀ k, (Op.equalIn (k + 1) e a0 b0).run P w = .ok q0 w) (h1 : ∀ k, (Op.equalIn (k + 1) e a1 b1).run P w = .ok q1 w) (k : Nat) : (Op.equalIn (k + 1 + 1) t (.agg #[a0, a1]) (.agg #[b0, b1])).run P w = .ok (q0 && q1) w := by
  have hr : List.range' 0 2 = [0, 1] := rfl
  rw [Op.equalIn]
  simp only [Sem.run_bind, run_underlying ht, Result.andThen_ok, run_sizeOf hi]
  cases q0 <;> cases q1 <;> simp [Std.Legacy.Range.forIn_eq_forIn_range', Std.Legacy.Range.size, hr, part, run_isAgg he, hf, h0 k, h1 k, Sem.run_bind]
inductive FE (P : Program) (w : World) (xs ys : List Value) : List Field → List Bool → Prop
  | nil : FE P w xs ys [] []
  | cons {f : Field} {fs : List Field} {q : Bool} {qs : List Bool} {u v : Value} (hn : f.name ≠ "_") (hx : (part f.type xs.toArray f.offset).run P w = .ok u w) (hy : (part f.type ys.toArray f.offset).run P w = .ok v w)
      (he : ∀ k, (Op.equalIn (k + 1 + 1 + 1) f.type u v).run P w = .ok q w) (hr : FE P w xs ys fs qs) : FE P w xs ys (f :: fs) (q :: qs)
theorem FE.run {xs ys : List Value} (k : Nat) : ∀ {fs : List Field} {qs : List Bool}, FE P w xs ys fs qs → (Op.eqFields (k + 1 + 1 + 1) xs.toArray ys.toArray fs).run P w = .ok (qs.all id) w
  | _, _, .nil => by simp [Op.eqFields]
  | f :: fs, q :: qs, .cons (u := u) (v := v) hn h1 h2 he hr => by
    have ih := FE.run k hr
    simp only [Op.eqFields]
    rw [if_pos hn]
    simp only [Sem.run_bind, h1, h2, he k, Result.andThen_ok]
    cases q
    · simp
    · simpa using ih
theorem FE.one {f : Field} {fs : List Field} {q : Bool} {qs : List Bool} {xs ys : List Value} {u v : Value} {d : TypeDesc} (hn : f.name ≠ "_") (hd : P.underlying f.type = some d) (hfl : flat d = true) (hx : xs[f.offset]? = some u) (hy : ys[f.offset]? = some v)
    (he : ∀ k, (Op.equalIn (k + 1) f.type u v).run P w = .ok q w) (hr : FE P w xs ys fs qs) : FE P w xs ys (f :: fs) (q :: qs) :=
  .cons hn (by simp [part, Sem.run_bind, run_isAgg hd, hfl, hx]) (by simp [part, Sem.run_bind, run_isAgg hd, hfl, hy]) (fun k => he (k + 1 + 1)) hr
theorem FE.two {f : Field} {fs : List Field} {q0 q1 : Bool} {qs : List Bool} {xs ys : List Value} {a0 a1 b0 b1 : Value} {d : TypeDesc} {bs' : Nat} {z' : Value} (hn : f.name ≠ "_") (hd : P.underlying f.type = some (.array 2 e)) (ht : TI P f.type z' 2 bs') (he : P.underlying e = some d) (hf : flat d = true) (hi : TI P e z 1 bs)
    (hx : (xs.drop f.offset).take 2 = [a0, a1]) (hy : (ys.drop f.offset).take 2 = [b0, b1])
    (h0 : ∀ k, (Op.equalIn (k + 1) e a0 b0).run P w = .ok q0 w) (h1 : ∀ k, (Op.equalIn (k + 1) e a1 b1).run P w = .ok q1 w) (hr : FE P w xs ys fs qs) : FE P w xs ys (f :: fs) ((q0 && q1) :: qs) :=
  .cons hn (by simp [part, Sem.run_bind, run_isAgg hd, flat, run_sizeOf ht, hx]) (by simp [part, Sem.run_bind, run_isAgg hd, flat, run_sizeOf ht, hy]) (fun k => run_eq_arr2 hd he hf hi h0 h1 (k + 1)) hr
theorem FE.str {f : Field} {fs : List Field} {fs' : Array Field} {qs qs' : List Bool} {xs ys us vs : List Value} {m bs' : Nat} {z' : Value} (hn : f.name ≠ "_") (hd : P.underlying f.type = some (.struct fs')) (hp : P.stoodInHeld f.type = false) (ht : TI P f.type z' m bs')
    (hx : (xs.drop f.offset).take m = us) (hy : (ys.drop f.offset).take m = vs) (h : FEqs P w us vs fs'.toList qs') (hr : FE P w xs ys fs qs) : FE P w xs ys (f :: fs) ((qs'.all id) :: qs) := by
  have hf : P.fieldsOf f.type = fs' := by unfold Program.fieldsOf; rw [hd]
  refine .cons (u := .agg us.toArray) (v := .agg vs.toArray) hn (by simp [part, Sem.run_bind, run_isAgg hd, flat, run_sizeOf ht, hx]) (by simp [part, Sem.run_bind, run_isAgg hd, flat, run_sizeOf ht, hy]) (fun k => ?_) hr
  rw [run_equalIn_agg w _ f.type _ _ (by rw [hf]; exact hd) hp, hf, h.run]
end
section
variable {P : Program} {R : Act → World → Prop} {k : List KI} {n : Nat} {σ : Sig} {w : World}
theorem pst_goto {l : Nat} : ∀ (k : List KI) (a : Act) (w : World), pst P R k (.goto l) a w → False
  | [], _, _, h => h
  | .code _ :: k, a, w, h => pst_goto k a w h
  | .blk _ :: k, a, w, h => pst_goto k a w h
  | .asr _ :: k, a, w, h => pst_goto k a w h
theorem KW.scope {c : Code} (h : KW P R (.code c :: k) n σ w) : KW P R (.code (.scope c) :: k) n σ w := fun a ha => by
  refine wp_scope_straight ?_
  intro b k' cs
  obtain ⟨e, a₁, w₁, hq, harr⟩ := h a ha b k' cs
  refine ⟨e, a₁, w₁, ?_, harr⟩
  cases e with
  | goto l => exact pst_goto k _ _ hq
  | normal => exact hq
  | exit id => exact hq
  | ret => exact hq
  | panic ch => exact hq
  | outgrown => exact hq
end
end Go.Proofs.YthgfdpcpbghkpaaGreatDoor
