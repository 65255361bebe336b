/-
  The engine's laws for what strings.Builder does: a pointer turned to unsafe.Pointer and back, an entry of the model's own, the bytes behind a slice as a text. No program is spoken of.
-/
import Derived.Test.YtieojdkblakchaaDoorKq
import Derived.Test.YtieojdkblakchaaDoorKs
import Derived.Lib.Builder
import Derived.Lib.UnsafeStr
import Derived.Laws.Externs
namespace Go.Proofs.YtieojdkblakchaaDoor
open Go.RowKit
set_option linter.unusedSimpArgs false
set_option linter.unusedVariables false
section
variable {P : Program} {n : Nat} {σ : Sig} {w w' : World} {t e ty T src dst : TypeId} {x y : Operand}
theorem Bk.shape {b : Nat} {l : List Value} (h : Bk w b T l) : w.shape? b = some (T, l.length) := by
  obtain ⟨fr, h, _⟩ := h
  simp [World.shape?, h]
theorem EX.toUnsafe {a : Addr} {s cells : Nat} (hs : P.underlying src = some (.pointer t)) (hd : P.underlying dst = some .unsafePointer) (hz : (P.info? t).map (·.size) = some (s + 1)) (hsh : w.shape? a.block = some (e, cells)) (hoff : a.off < cells) (hx : ev σ x = some (.pointer (some a))) :
    EX P n σ (.convert src dst x) ty w (.pointer (some a)) w := fun A ha dd pos after g => by
  obtain ⟨j, hj, hjs⟩ := Option.map_eq_some_iff.1 hz
  simp only [execOp, ha.ev hx, Lib.run_to_unsafe w a hs hd hj (by omega) hsh hoff, Sem.run_bind, Result.andThen_ok]
  rfl
theorem EX.fromUnsafe {a : Addr} {u : TypeId} {cells : Nat} {z : Nat} (hs : P.underlying src = some .unsafePointer) (hd : P.underlying dst = some (.pointer u)) (hz : (P.info? u).map (·.size) = some z) (hsh : w.shape? a.block = some (e, cells)) (hl : liesAt P P.depth e (cells / P.cellsOf e) a.off u 1 = true) (hx : ev σ x = some (.pointer (some a))) :
    EX P n σ (.convert src dst x) ty w (.pointer (some a)) w := fun A ha dd pos after g => by
  obtain ⟨j, hj, hjs⟩ := Option.map_eq_some_iff.1 hz
  simp only [execOp, ha.ev hx, Lib.run_from_unsafe w a hs hd hj hsh hl, Sem.run_bind, Result.andThen_ok]
  rfl
theorem EX.neqSame {a : Addr} {z : Nat} (hu : P.underlying t = some (.pointer e)) (hz : (P.info? e).map (·.size) = some z) (hx : ev σ x = some (.pointer (some a))) (hy : ev σ y = some (.pointer (some a))) : EX P n σ (.binOp .neq t x y T) ty w (.bool false) w := by
  obtain ⟨j, hj, hjs⟩ := Option.map_eq_some_iff.1 hz
  exact EX.bin hx hy (guard_ptr _ _ _) (Lib.run_neq_ptr_same w a hu hj)
theorem EX.extern {f : FuncId} {fn : Func} {xs : List Operand} {vs : List Value} {ats : Array TypeId} {E : Array Value → Sem Value} {v : Value} (hf : P.funcs[f]? = some fn) (hname : (fn.name == "runtime.NumGoroutine") = false) (hb : fn.body.isNone = true) (hn : Extern.findNext fn = none) (he : Extern.find fn = some E)
    (hx : evs σ xs = some vs) (hr : (E vs.toArray).run P w = .ok v w') : EX P n σ (.call { callee := .value (.func f), args := xs.toArray, argTypes := ats }) ty w v w' := fun a ha dd pos after g => by
  rw [execOp_call_go]
  have : #[] ++ xs.toArray.map a.eval ++ #[] = vs.toArray := by simp [ha.evs hx]
  rw [this, run_callFunc_extern hf hname hb hn he, hr]
  rfl
theorem EX.sliceData {a : Addr} {m c : Nat} (hc : c ≠ 0) (hx : ev σ x = some (.slice (some a) m c)) : EX P n σ (.call { callee := .builtin .unsafeSliceData, args := #[x], argTypes := #[t] }) ty w (.pointer (some a)) w := fun A ha dd pos after g => by
  simp only [execOp, resolve, invoke, builtin, Sem.run_bind, Sem.run_pure, Result.andThen_ok, List.map_toArray, List.map_cons, List.map_nil, ha.ev hx, Lib.run_unsafeSliceData_row w _ _ a m c hc]
theorem EX.sliceDataN {m c : Nat} (hx : ev σ x = some (.slice none m c)) : EX P n σ (.call { callee := .builtin .unsafeSliceData, args := #[x], argTypes := #[t] }) ty w (.pointer none) w := fun A ha dd pos after g => by
  simp only [execOp, resolve, invoke, builtin, Sem.run_bind, Sem.run_pure, Result.andThen_ok, List.map_toArray, List.map_cons, List.map_nil, ha.ev hx, Lib.run_unsafeSliceData_nil w _ _ m c]
theorem EX.unsafeStr {g : Nat} {l : List UInt8} {rest : List Value} {t' : TypeId} (hp : P.underlying t = some (.pointer e)) (hc : P.cellsOf e = 1) (hb : Bk w g e (bytesV l ++ rest)) (h0 : l ≠ []) (h63 : l.length ≤ 9223372036854775807)
    (hx : ev σ x = some (.pointer (some ⟨g, 0, none⟩))) (hy : ev σ y = some (.int .i64 (l.length : Int))) : EX P n σ (.call { callee := .builtin .unsafeString, args := #[x, y], argTypes := #[t, t'] }) ty w (str l) (w.freeze ⟨g, 0, none⟩ l.length) := fun A ha dd pos after gd => by
  have h := Lib.run_unsafeString_row (P := P) w t t' ty e hp hc g (bytesV l ++ rest).length hb.shape l h0 (by simp [bytesV]) h63 (by
    intro j u hj
    have : (bytesV l ++ rest)[j]? = some (.int .u8 (u.toNat : Int)) := by
      rw [List.getElem?_append_left (by simp [bytesV]; exact (List.getElem?_eq_some_iff.1 hj).1)]
      simp [bytesV, hj]
    have h2 := hb.cell_of this
    rw [show (⟨g, 0, none⟩ : Addr).add j = ⟨g, j, none⟩ by unfold Addr.add; split <;> simp_all]
    exact h2)
  simp only [execOp, resolve, invoke, builtin, Sem.run_bind, Sem.run_pure, Result.andThen_ok, List.map_toArray, List.map_cons, List.map_nil, ha.ev hx, ha.ev hy, h]
theorem EX.unsafeStrN {t' : TypeId} {p : Option Addr} (hx : ev σ x = some (.pointer p)) (hy : ev σ y = some (.int .i64 ((0 : Nat) : Int))) : EX P n σ (.call { callee := .builtin .unsafeString, args := #[x, y], argTypes := #[t, t'] }) ty w (str []) w := fun A ha dd pos after gd => by
  have h := Lib.run_unsafeString_none (P := P) w t t' ty p
  have e0 : (((0 : Nat) : Int)) = 0 := rfl
  simp only [execOp, resolve, invoke, builtin, Sem.run_bind, Sem.run_pure, Result.andThen_ok, List.map_toArray, List.map_cons, List.map_nil, ha.ev hx, ha.ev hy, e0, h]
  rfl
end
end Go.Proofs.YtieojdkblakchaaDoor
