/-
  Shared parts of the plain laws of the script layer: splitting, a parse's length, the kinds' names. (Some stand also in PureLines, PureKeeps, PureTells, which were handed in before this text was made: no text imports both.)
-/
import Derived.Test.YtpeokbbidipdkaaDoorPure
namespace Go.Proofs.YtpeokbbidipdkaaDoor.Q
open Go Go.RowKit Go.Proofs.YtpeokbbidipdkaaDoorW.PrintWords Go.Proofs.YtpeokbbidipdkaaDoorW.PrintLast Go.Proofs.YtpeokbbidipdkaaDoorW.PrintMore
set_option linter.unusedVariables false
set_option linter.unusedSimpArgs false

theorem splitB_cons_none (c : UInt8) : ∀ l : List UInt8, c ∉ l → Spec.splitB c l = [l]
  | [], _ => rfl
  | x :: r, h => by
    simp only [List.mem_cons, not_or] at h
    simp only [Spec.splitB]
    rw [if_neg (fun e => h.1 e.symm), splitB_cons_none c r h.2]
theorem splitB_join (c : UInt8) : ∀ (a d : List UInt8), Spec.splitB c (a ++ c :: d) = Spec.splitB c a ++ Spec.splitB c d
  | [], d => by simp [Spec.splitB]
  | x :: r, d => by
    have ih := splitB_join c r d
    simp only [List.cons_append, Spec.splitB]
    by_cases hx : x = c
    · rw [if_pos hx, if_pos hx, ih]; rfl
    · rw [if_neg hx, if_neg hx, ih]
      obtain ⟨y, ys, e⟩ := Range.splitB_ne c r
      rw [e]; rfl

theorem bt_byte (s : ByteArray) (j : Nat) (hj : j < s.size) : bt s (j : Int) = ((s.data.toList[j]'(by rw [Array.length_toList]; exact hj)).toNat : Int) := by
  unfold bt
  rw [dif_pos (by simpa using hj)]
  rfl

theorem parseFrom_len : ∀ (ls : List (List UInt8)) (n : Nat) (acc : List Spec.St), acc.length ≤ 4096 → (Spec.parseFrom n acc ls).1.length ≤ 4096
  | [], n, acc, h => h
  | l :: ls, n, acc, h => by
    simp only [Spec.parseFrom]
    split
    · exact parseFrom_len ls (n + 1) acc h
    · split
      · simp
      · split
        · simp
        · exact parseFrom_len ls (n + 1) _ (by simp; omega)
theorem parse_len (t : List UInt8) : (Spec.parse t).1.length ≤ 4096 := by
  unfold Spec.parse
  split
  · simp
  · exact parseFrom_len _ 0 [] (by simp)

theorem kinds {k : Int} (h : ¬ (k < 1 ∨ 11 < k)) : k = 1 ∨ k = 2 ∨ k = 3 ∨ k = 4 ∨ k = 5 ∨ k = 6 ∨ k = 7 ∨ k = 8 ∨ k = 9 ∨ k = 10 ∨ k = 11 := by omega

theorem name_in {k : Int} (h : ¬ (k < 1 ∨ 11 < k)) : ∃ b, fletchref21_name.f k = some b ∧ b.data.toList = Spec.nameOf k ∧ b.data.toList ≠ [] ∧ b.size ≤ 7 := by
  rcases kinds h with rfl | rfl | rfl | rfl | rfl | rfl | rfl | rfl | rfl | rfl | rfl <;> exact ⟨_, rfl, rfl, by decide, by decide⟩
theorem name_out {k : Int} (h : k < 1 ∨ 11 < k) : fletchref21_name.f k = some ⟨#[]⟩ := by
  unfold fletchref21_name.f
  rw [if_neg (by omega), if_neg (by omega), if_neg (by omega), if_neg (by omega), if_neg (by omega), if_neg (by omega), if_neg (by omega), if_neg (by omega), if_neg (by omega), if_neg (by omega), if_neg (by omega)]


end Go.Proofs.YtpeokbbidipdkaaDoor.Q
