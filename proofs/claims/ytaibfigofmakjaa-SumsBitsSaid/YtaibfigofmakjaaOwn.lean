/-
  Which functions are the program's own; what stays, where calls leave what was there.
-/
import Derived.Test.YtaibfigofmakjaaW2
import Derived.Test.YtaibfigofmakjaaT
set_option linter.unusedSimpArgs false
set_option linter.unusedVariables false
namespace Go.Proofs.Ytaibfigofmakjaa
open Go.RowKit
theorem own8 : Own Try.prog 8 := own_of Try.func8 (by kernel_rfl) rfl
theorem own9 : Own Try.prog 9 := own_of Try.func9 (by kernel_rfl) rfl
theorem own10 : Own Try.prog 10 := own_of Try.func10 (by kernel_rfl) rfl
theorem own11 : Own Try.prog 11 := own_of Try.func11 (by kernel_rfl) rfl
theorem own12 : Own Try.prog 12 := own_of Try.func12 (by kernel_rfl) rfl
theorem own13 : Own Try.prog 13 := own_of Try.func13 (by kernel_rfl) rfl
theorem own14 : Own Try.prog 14 := own_of Try.func14 (by kernel_rfl) rfl
theorem own15 : Own Try.prog 15 := own_of Try.func15 (by kernel_rfl) rfl
theorem own16 : Own Try.prog 16 := own_of Try.func16 (by kernel_rfl) rfl
theorem own17 : Own Try.prog 17 := own_of Try.func17 (by kernel_rfl) rfl
theorem own18 : Own Try.prog 18 := own_of Try.func18 (by kernel_rfl) rfl
theorem own19 : Own Try.prog 19 := own_of Try.func19 (by kernel_rfl) rfl
theorem own20 : Own Try.prog 20 := own_of Try.func20 (by kernel_rfl) rfl

theorem row_lt {w' : World} {B : Nat} {o : Obj} (h : w'.heap[B]? = some o) : B < w'.heap.size := (Array.getElem?_eq_some_iff.1 h).1
theorem keepR {w0 w w' : World} {B : Nat} {o : Obj} (h : w.heap[B]? = some o ∧ Below w0.heap.size w0 w) (hb : Below w.heap.size w w') :
    w'.heap[B]? = some o ∧ Below w0.heap.size w0 w' := by
  obtain ⟨h2, h3⟩ := h
  exact ⟨(hb.block B (row_lt h2)).trans h2, bt h3 hb⟩
def turned (k v : Nat) : Nat → Nat := fun i => if i = k then v else crcT i
theorem turned_lt {k v : Nat} (hv : v < 4294967296) : ∀ i, i < 256 → turned k v i < 4294967296 := by
  intro i hi
  unfold turned
  split
  · exact hv
  · exact crcT_lt hi
end Go.Proofs.Ytaibfigofmakjaa
