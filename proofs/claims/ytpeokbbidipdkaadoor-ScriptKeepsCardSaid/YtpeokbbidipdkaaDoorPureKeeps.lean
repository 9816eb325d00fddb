/-
  ScriptKeeps in plain Lean.
-/
import Derived.Test.YtpeokbbidipdkaaDoorPure
import Derived.Test.YtpeokbbidipdkaaDoorQ19
namespace Go.Proofs.YtpeokbbidipdkaaDoor.Q
open Go Go.RowKit Go.Proofs.YtpeokbbidipdkaaDoorW.PrintWords Go.Proofs.YtpeokbbidipdkaaDoorW.PrintLast Go.Proofs.YtpeokbbidipdkaaDoorW.PrintMore
set_option linter.unusedVariables false
set_option linter.unusedSimpArgs false

theorem parseFrom_len : ∀ (ls : List (List UInt8)) (n : Nat) (acc : List Spec.St), acc.length ≤ 4096 → (Spec.parseFrom n acc ls).1.length ≤ 4096
  | [], n, acc, h => h
  | l :: ls, n, acc, h => by
    simp only [Spec.parseFrom]
    split
    · exact parseFrom_len ls (n + 1) acc h
    · split
      · simp
      · split
        · simp
        · exact parseFrom_len ls (n + 1) _ (by simp; omega)
theorem parse_len (t : List UInt8) : (Spec.parse t).1.length ≤ 4096 := by
  unfold Spec.parse
  split
  · simp
  · exact parseFrom_len _ 0 [] (by simp)

theorem keeps_l1 (x6 : ByteArray) (x7 : Int) (x14 : List S36) (hx : x14.length ≤ 4096) : ∀ (n j k : Nat) (x11 : List S36), j + n = x11.length → n + 5000 < k → x11.length ≤ 4096 →
    fletchlaw21_ScriptKeeps.l1 k x6 x7 x6 x7 x11 x14 x14 (x11.length : Int) (j : Int) = some true := by
  intro n
  induction n with
  | zero =>
    intro j k x11 hj hk hl
    obtain ⟨k, rfl⟩ : ∃ k', k = k' + 1 := ⟨k - 1, by omega⟩
    simp only [fletchlaw21_ScriptKeeps.l1]
    rw [if_neg (by omega), Option.bind_some, if_pos (by simp; omega)]
    simp only [if_true]
    rw [if_pos (by simp; omega), same_refl _ (by omega) k (by omega)]
    rfl
  | succ n ih =>
    intro j k x11 hj hk hl
    obtain ⟨k, rfl⟩ : ∃ k', k = k' + 1 := ⟨k - 1, by omega⟩
    simp only [fletchlaw21_ScriptKeeps.l1]
    rw [if_pos (by omega), if_pos (by omega), if_pos (by omega), wrap_id _ (by omega) (by omega)]
    have := ih (j + 1) k (x11.set ((j : Int)).toNat ⟨9, 0, 0, 0, 0⟩) (by simp; omega) (by omega) (by simp; omega)
    rw [List.length_set] at this
    exact this

theorem keeps_l0 (l0 : List S36) (a1 : ByteArray) (t : ByteArray) (e : Int) (ht : script_Text.f l0 = some (t, e)) : ∀ (n j k : Nat) (x5 : List S36), j + n = x5.length → n + 10000 < k → x5.length ≤ 8193 →
    fletchlaw21_ScriptKeeps.l0 k l0 a1 x5 t e (x5.length : Int) (j : Int) = some true := by
  intro n
  induction n with
  | zero =>
    intro j k x5 hj hk hl
    obtain ⟨k, rfl⟩ : ∃ k', k = k' + 1 := ⟨k - 1, by omega⟩
    simp only [fletchlaw21_ScriptKeeps.l0]
    rw [if_neg (by omega), ht, Option.bind_some]
    unfold script_Parse.f
    rw [Option.bind_some, Option.bind_some, Option.bind_some]
    have hp := parse_len a1.data.toList
    have hp2 : (ansP (Spec.parse a1.data.toList)).1.length ≤ 4096 := by simpa [ansP] using hp
    rw [if_pos (by simp; omega), List.nil_append]
    exact keeps_l1 t e _ hp2 _ 0 k _ (Nat.zero_add _) (by omega) hp2
  | succ n ih =>
    intro j k x5 hj hk hl
    obtain ⟨k, rfl⟩ : ∃ k', k = k' + 1 := ⟨k - 1, by omega⟩
    simp only [fletchlaw21_ScriptKeeps.l0]
    rw [if_pos (by omega), if_pos (by omega), if_pos (by omega), wrap_id _ (by omega) (by omega)]
    have := ih (j + 1) k (x5.set ((j : Int)).toNat ⟨0, 0, 0, 0, 0⟩) (by simp; omega) (by omega) (by simp; omega)
    rw [List.length_set] at this
    exact this

theorem pureKeeps (l0 : List S36) (a1 : ByteArray) : ∃ k, fletchlaw21_ScriptKeeps.f k l0 a1 = some true := by
  refine ⟨20001, ?_⟩
  unfold fletchlaw21_ScriptKeeps.f
  rw [wakes_true _ (by decide), Option.bind_some, if_pos rfl]
  by_cases h : (l0.length : Int) > 8192
  · rw [if_pos h]
  rw [if_neg h, Option.bind_some, if_pos (by simp; omega), List.nil_append, Option.bind_some, if_pos (by omega), Option.bind_some, if_pos (by omega), if_pos (by simp; omega)]
  have e1 : (l0 ++ [(⟨71, 0, 0, 0, 0⟩ : S36)]).take ((l0.length : Int)).toNat = l0 := by simp
  obtain ⟨t, e, ht⟩ : ∃ t e, script_Text.f l0 = some (t, e) := by unfold script_Text.f; rw [if_pos (by omega)]; exact ⟨_, _, rfl⟩
  rw [e1, ht, Option.bind_some, same_refl _ (by omega) _ (by omega), Option.bind_some, if_pos rfl, if_pos (by simp; omega)]
  have e2 : rd_T36 (l0 ++ [(⟨71, 0, 0, 0, 0⟩ : S36)]) (l0.length : Int) = ⟨71, 0, 0, 0, 0⟩ := by simp [rd_T36]
  rw [e2]
  simp only [fletchlaw21_ScriptKeeps.j0]
  rw [if_neg (by simp)]
  exact keeps_l0 l0 a1 t e ht _ 0 20000 _ (Nat.zero_add _) (by simp; omega) (by simp; omega)
end Go.Proofs.YtpeokbbidipdkaaDoor.Q
