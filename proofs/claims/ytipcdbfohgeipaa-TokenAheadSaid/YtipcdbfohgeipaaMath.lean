/-
  Token: the document's example, and a text's bytes as a list. Plain mathematics.
-/
import Derived.Test.YtipcdbfohgeipaaPCx5
namespace Go.Proofs.Ytipcdbfohgeipaa.Pure
open Go.RowKit Go.Proofs.Ytipcdbfohgeipaa.PC Go.Proofs.YtipcdbfohgeipaaW.PrintWords Go.Proofs.YtipcdbfohgeipaaW.PrintLast
theorem loop_eq (s : ByteArray) : ∀ (n i : Nat) (r : List UInt8), s.size - i = n → ByteArray.toList.loop s i r = r.reverse ++ s.data.toList.drop i := by
  intro n
  induction n with
  | zero =>
    intro i r h
    rw [ByteArray.toList.loop]
    have hi : ¬ i < s.size := by omega
    rw [if_neg hi, List.drop_eq_nil_of_le (by rw [Array.length_toList]; show s.size ≤ i; omega)]
    simp
  | succ n ih =>
    intro i r h
    rw [ByteArray.toList.loop]
    have hi : i < s.size := by omega
    have hi2 : i < s.data.toList.length := by rw [Array.length_toList]; exact hi
    rw [if_pos hi, ih (i + 1) _ (by omega), List.drop_eq_getElem_cons hi2]
    have e : s.get! i = s.data.toList[i] := by
      show s.data[i]! = _
      rw [Array.getElem_toList]
      exact getElem!_pos s.data i hi
    rw [e]; simp
theorem toList_data (s : ByteArray) : s.toList = s.data.toList := by
  unfold ByteArray.toList
  rw [loop_eq s s.size 0 [] (by omega)]; simp
theorem works_true : platenlaw09_works.f = some true := by
  have e1 : textB ⟨#[]⟩ [⟨97,0,0⟩, ⟨0, 4, 1⟩] = (textOf [97,97,97,97,97], 0) := by rfl
  have e2 : textB ⟨#[120]⟩ [⟨0, 3, 2⟩] = (ByteArray.empty, 7) := by rfl
  have f1 : token_Text.f (⟨#[]⟩ : ByteArray) (([(⟨97, 0, 0⟩ : S24), (⟨0, 4, 1⟩ : S24)] : List (S24))) = some (textOf [97,97,97,97,97], 0) := by
    unfold token_Text.f
    rw [if_pos ⟨by decide, by decide, by decide⟩]
    exact congrArg some e1
  have f2 : token_Text.f (⟨#[120]⟩ : ByteArray) (([(⟨0, 3, 2⟩ : S24)] : List (S24))) = some (ByteArray.empty, 7) := by
    unfold token_Text.f
    rw [if_pos ⟨by decide, by decide, by decide⟩]
    exact congrArg some e2
  have f3 : token_Size.f (([(⟨0, 0, 0⟩ : S24), (⟨0, 4, 1⟩ : S24)] : List (S24))) = some 5 := by
    unfold token_Size.f
    rw [if_pos (by decide)]
    simp [wsum, tk, sizeI, mayI, wrap64]
  have f4 : token_May.f 0 2 1 = some false := by rfl
  unfold platenlaw09_works.f
  rw [f1, f2, f3, f4]
  simp [toList_data, textOf]

end Go.Proofs.Ytipcdbfohgeipaa.Pure
