/-
  ScriptBack in plain Lean.
-/
import Derived.Test.YtpeokbbidipdkaaDoorPureRound
import Derived.Test.YtpeokbbidipdkaaDoorQ17
namespace Go.Proofs.YtpeokbbidipdkaaDoor.Q
open Go Go.RowKit Go.Proofs.YtpeokbbidipdkaaDoorW.PrintWords Go.Proofs.YtpeokbbidipdkaaDoorW.PrintLast Go.Proofs.YtpeokbbidipdkaaDoorW.PrintMore
set_option linter.unusedVariables false
set_option linter.unusedSimpArgs false

theorem text_none (l : List S36) (h : l.length ≤ 8192) (ht : Spec.textOf (l.map ofS) = none) : script_Text.f l = some (⟨#[]⟩, 1) := by
  unfold script_Text.f; rw [if_pos (by omega), ht]; rfl
theorem text_some (l : List S36) (h : l.length ≤ 8192) (u : List UInt8) (ht : Spec.textOf (l.map ofS) = some u) : script_Text.f l = some (⟨u.toArray⟩, 0) := by
  unfold script_Text.f; rw [if_pos (by omega), ht]; simp [fin]
theorem arr_size (u : List UInt8) : (⟨u.toArray⟩ : ByteArray).size = u.length := by show u.toArray.size = _; simp
theorem parse_f (u : List UInt8) : script_Parse.f ⟨u.toArray⟩ = some (ansP (Spec.parse u)) := by unfold script_Parse.f; rfl

theorem back_j1 (a1 : ByteArray) (t : ByteArray) (e : Int) (he : e = 0 ∨ (e = 1 ∧ t = ⟨#[]⟩)) (K : Nat) (hK : 5000 ≤ K) : fletchlaw21_ScriptBack.j1 K a1 t e = some true := by
  obtain ⟨K, rfl⟩ : ∃ k, K = k + 1 + 1 + 1 := ⟨K - 3, by omega⟩
  have h2 : fletchlaw21_ScriptBack.j2 (K + 1 + 1) a1 false = some true := by
    simp only [fletchlaw21_ScriptBack.j2]
    rw [if_neg (by simp)]
    have hpf : script_Parse.f a1 = some (ansP (Spec.parse a1.data.toList)) := rfl
    rw [hpf, Option.bind_some]
    have hpl := parse_len a1.data.toList
    obtain ⟨u, hu⟩ := parse_told a1.data.toList
    have hend := parse_end a1.data.toList
    generalize Spec.parse a1.data.toList = P at hpl hu hend
    obtain ⟨l, n, er⟩ := P
    simp only at hpl hu hend
    rcases hend with he | ⟨he1, he2⟩
    · obtain ⟨rfl, rfl⟩ : n = 0 ∧ er = 0 := by simpa using he
      simp only [ansP, if_true]
      rw [text_some (l.map toS) (by simp; omega) u (by rw [ofS_toS]; exact hu), Option.bind_some]
      simp only [if_true, fletchlaw21_ScriptBack.j3]
      by_cases hs : u.length ≤ 65536
      · rw [if_neg (by rw [arr_size]; simp; omega), parse_f, round l u hu hpl hs, Option.bind_some]
        simp only [ansP, if_true]
        rw [same_refl _ (by simp; omega) _ (by simp; omega)]
        rfl
      · rw [if_pos (by rw [arr_size]; simp; omega)]
        rfl
    · subst he1
      rcases he2 with ⟨rfl, hn⟩ | rfl
      · simp [ansP, hn]
      · simp [ansP]
  simp only [fletchlaw21_ScriptBack.j1]
  rcases he with rfl | ⟨rfl, rfl⟩
  · rw [if_pos rfl]; exact h2
  · rw [if_neg (by decide), if_pos rfl, toList_data]
    exact h2

theorem pureBack (l0 : List S36) (a1 : ByteArray) : ∃ k, fletchlaw21_ScriptBack.f k l0 a1 = some true := by
  refine ⟨20001, ?_⟩
  unfold fletchlaw21_ScriptBack.f
  rw [wakes_true _ (by decide), Option.bind_some, if_pos rfl]
  by_cases h : (l0.length : Int) > 8192
  · rw [if_pos h]
  rw [if_neg h]
  cases ht : Spec.textOf (l0.map ofS) with
  | none =>
    rw [text_none l0 (by omega) ht, Option.bind_some, if_neg (show ¬ ((1 : Int) = 0) by decide)]
    simp only [fletchlaw21_ScriptBack.j0]
    rw [if_neg (by simp)]
    exact back_j1 a1 _ 1 (.inr ⟨rfl, rfl⟩) 20000 (by omega)
  | some u =>
    rw [text_some l0 (by omega) u ht, Option.bind_some]
    simp only [if_true]
    have hj1 := back_j1 a1 ⟨u.toArray⟩ 0 (.inl rfl) 20000 (by omega)
    by_cases h4 : (l0.length : Int) ≤ 4096
    · rw [if_pos h4]
      simp only [fletchlaw21_ScriptBack.j0]
      by_cases hs : u.length ≤ 65536
      · rw [if_pos (by rw [arr_size]; simp; omega)]
        have hr := round (l0.map ofS) u ht (by simp; omega) hs
        rw [parse_f, Option.bind_some, hr]
        simp only [ansP, if_true]
        rw [toS_ofS, same_refl l0 (by omega) _ (by omega), Option.bind_some, if_pos rfl]
        exact hj1
      · rw [if_neg (by rw [arr_size]; simp; omega)]
        exact hj1
    · rw [if_neg h4]
      simp only [fletchlaw21_ScriptBack.j0]
      rw [if_neg (by simp)]
      exact hj1
end Go.Proofs.YtpeokbbidipdkaaDoor.Q
