/-
  What the laws' shared parts tell, in plain Lean: the two samples that every law wakes with; steps alike.
-/
import Derived.Test.YtpeokbbidipdkaaDoorQ11
import Derived.Test.YtpeokbbidipdkaaDoorText
import Derived.Test.YtpeokbbidipdkaaDoorParse
namespace Go.Proofs.YtpeokbbidipdkaaDoor.Q
open Go Go.RowKit Go.Proofs.YtpeokbbidipdkaaDoorW.PrintWords Go.Proofs.YtpeokbbidipdkaaDoorW.PrintLast Go.Proofs.YtpeokbbidipdkaaDoorW.PrintMore
set_option linter.unusedVariables false
set_option linter.unusedSimpArgs false

theorem upto {α : Type} {f : Nat → Option α} (hm : ∀ k, LeO (f k) (f (k + 1))) {k k' : Nat} {r : α} (h : f k = some r) (hk : k ≤ k') : f k' = some r := by
  induction k' with
  | zero => obtain rfl : k = 0 := by omega
            exact h
  | succ n ih =>
    rcases Nat.lt_or_ge n k with hl | hl
    · obtain rfl : k = n + 1 := by omega
      exact h
    · exact hm n r (ih hl)

theorem wrap_id (x : Int) (h0 : -9223372036854775808 ≤ x) (h1 : x ≤ 9223372036854775807) : wrap64 x = x := by
  unfold wrap64; omega

theorem same_loop (xs : List S36) (hl : xs.length ≤ 1000000000) : ∀ (n : Nat) (j k : Nat), j + n = xs.length → n < k → fletchlaw21_sameSteps.l0 k xs xs (xs.length : Int) (j : Int) = some true := by
  intro n
  induction n with
  | zero =>
    intro j k hj hk
    obtain ⟨k, rfl⟩ : ∃ k', k = k' + 1 := ⟨k - 1, by omega⟩
    simp only [fletchlaw21_sameSteps.l0]
    rw [if_neg (by omega)]
  | succ n ih =>
    intro j k hj hk
    obtain ⟨k, rfl⟩ : ∃ k', k = k' + 1 := ⟨k - 1, by omega⟩
    simp only [fletchlaw21_sameSteps.l0]
    rw [if_pos (by omega), if_pos (by omega), if_pos (by omega), if_pos (by omega), if_neg (by simp), wrap_id _ (by omega) (by omega)]
    exact ih (j + 1) k (by omega) (by omega)
theorem same_refl (xs : List S36) (hl : xs.length ≤ 1000000000) (k : Nat) (hk : xs.length < k) : fletchlaw21_sameSteps.f k xs xs = some true := by
  unfold fletchlaw21_sameSteps.f
  rw [if_pos rfl]
  exact same_loop xs hl xs.length 0 k (by omega) hk

theorem wakes_parse : script_Parse.f (⟨#[97, 99, 113, 117, 105, 114, 101, 32, 48, 32, 49, 10, 32, 32, 10, 32, 97, 114, 109, 32, 32, 50, 32, 45, 49, 32, 57]⟩ : ByteArray) = some ([⟨1, 0, 1, 0, 0⟩, ⟨9, 2, 0, -1, 9⟩], 0, 0) := by
  unfold script_Parse.f
  have : Spec.parse [97, 99, 113, 117, 105, 114, 101, 32, 48, 32, 49, 10, 32, 32, 10, 32, 97, 114, 109, 32, 32, 50, 32, 45, 49, 32, 57] = ([⟨1, 0, 1, 0, 0⟩, ⟨9, 2, 0, -1, 9⟩], 0, 0) := by decide
  show some (ansP (Spec.parse [97, 99, 113, 117, 105, 114, 101, 32, 48, 32, 49, 10, 32, 32, 10, 32, 97, 114, 109, 32, 32, 50, 32, 45, 49, 32, 57])) = _
  rw [this]
  rfl
theorem wakes_text : script_Text.f [(⟨10, 3, 0, 0, 2⟩ : S36)] = some (⟨#[111, 102, 102, 32, 51, 32, 50, 10]⟩, 0) := by
  unfold script_Text.f
  rw [if_pos (by simp)]
  have h3 : Lib.itoa 3 = [51] := by show Lib.decDigits 3 = _; rw [Lib.decDigits_one (by decide)]; rfl
  have h2 : Lib.itoa 2 = [50] := by show Lib.decDigits 2 = _; rw [Lib.decDigits_one (by decide)]; rfl
  simp [Spec.textOf, Spec.endText, Spec.fieldsText, Spec.fieldsOf, ofS, Spec.get, Spec.put, Spec.wide, Spec.nameOf, Spec.names, h3, h2, Spec.zeroSt, fin]
theorem wakes_true (k : Nat) (hk : 2 < k) : fletchlaw21_wakes.f k = some true := by
  unfold fletchlaw21_wakes.f
  rw [wakes_parse, Option.bind_some, wakes_text, Option.bind_some]
  simp only [if_true]
  rw [same_refl _ (by simp) k (by simpa using hk), Option.bind_some, if_pos rfl]
  rw [toList_data]
  rfl

end Go.Proofs.YtpeokbbidipdkaaDoor.Q
