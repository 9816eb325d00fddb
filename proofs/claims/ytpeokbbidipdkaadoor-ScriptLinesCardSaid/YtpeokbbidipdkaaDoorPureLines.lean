/-
  ScriptLines in plain Lean.
-/
import Derived.Test.YtpeokbbidipdkaaDoorPure
import Derived.Test.YtpeokbbidipdkaaDoorQ20
namespace Go.Proofs.YtpeokbbidipdkaaDoor.Q
open Go Go.RowKit Go.Proofs.YtpeokbbidipdkaaDoorW.PrintWords Go.Proofs.YtpeokbbidipdkaaDoorW.PrintLast Go.Proofs.YtpeokbbidipdkaaDoorW.PrintMore
set_option linter.unusedVariables false
set_option linter.unusedSimpArgs false

theorem splitB_cons_none (c : UInt8) : ∀ l : List UInt8, c ∉ l → Spec.splitB c l = [l]
  | [], _ => rfl
  | x :: r, h => by
    simp only [List.mem_cons, not_or] at h
    simp only [Spec.splitB]
    rw [if_neg (fun e => h.1 e.symm), splitB_cons_none c r h.2]
theorem splitB_join (c : UInt8) : ∀ (a d : List UInt8), Spec.splitB c (a ++ c :: d) = Spec.splitB c a ++ Spec.splitB c d
  | [], d => by simp [Spec.splitB]
  | x :: r, d => by
    have ih := splitB_join c r d
    simp only [List.cons_append, Spec.splitB]
    by_cases hx : x = c
    · rw [if_pos hx, if_pos hx, ih]; rfl
    · rw [if_neg hx, if_neg hx, ih]
      obtain ⟨y, ys, e⟩ := Range.splitB_ne c r
      rw [e]; rfl

/-- A line alone. -/
theorem parse_line (d : List UInt8) (hn : (10 : UInt8) ∉ d) (hl : d.length ≤ 65536) :
    Spec.parse d = if Spec.wordsOf d = [] then (([], 0, 0) : List Spec.St × Int × Int) else match Spec.lineOf (Spec.wordsOf d) with | none => ([], 1, 50) | some s => ([s], 0, 0) := by
  unfold Spec.parse
  rw [if_neg (by omega), splitB_cons_none 10 d hn]
  simp only [Spec.parseFrom]
  split
  · rfl
  · cases Spec.lineOf (Spec.wordsOf d) with
    | none => rfl
    | some s => simp

def stepLines (x3 : ByteArray) (acc : List Spec.St) (x5 : Int) (idx : Nat) : Prop :=
  0 ≤ x5 ∧ acc.length ≤ idx ∧ ((idx = 0 ∧ x3 = ⟨#[]⟩ ∧ acc = [] ∧ x5 = 0) ∨ (0 < idx ∧ ∀ rest, Spec.parseFrom 0 [] (Spec.splitB 10 x3.data.toList ++ rest) = if 0 < x5 then ([], x5, 50) else Spec.parseFrom idx acc rest))

theorem bt_byte (s : ByteArray) (j : Nat) (hj : j < s.size) : bt s (j : Int) = ((s.data.toList[j]'(by rw [Array.length_toList]; exact hj)).toNat : Int) := by
  unfold bt
  rw [dif_pos (by simpa using hj)]
  rfl

theorem lines_scan (x3 : ByteArray) (x4 : List S36) (x5 x6 : Int) (x7 : ByteArray) (x20 : List ByteArray) (x21 x22 : Int) (hs : x7.size ≤ 300) (h3 : x3.size ≤ 4611686018427387904) : ∀ (m j k : Nat), j + m = x7.size → m < k →
    fletchlaw21_ScriptLines.l1 k x3 x4 x5 x6 x7 (j : Int) x20 x21 x22 = some true ∨
    ((10 : UInt8) ∉ x7.data.toList.drop j ∧ fletchlaw21_ScriptLines.l1 k x3 x4 x5 x6 x7 (j : Int) x20 x21 x22 = fletchlaw21_ScriptLines.j2 (k - m - 1) (if 0 < x6 then x3 ++ ⟨#[10]⟩ else x3) x4 x5 x6 x7 x20 x21 x22) := by
  intro m
  induction m with
  | zero =>
    intro j k hj hk
    obtain ⟨k, rfl⟩ : ∃ k', k = k' + 1 := ⟨k - 1, by omega⟩
    refine .inr ⟨?_, ?_⟩
    · rw [List.drop_of_length_le (by rw [Array.length_toList]; show x7.size ≤ j; omega)]; simp
    · simp only [fletchlaw21_ScriptLines.l1]
      rw [if_neg (by omega)]
      by_cases h6 : 0 < x6
      · rw [if_pos h6, if_pos (by omega), if_pos h6]; rfl
      · rw [if_neg h6, if_neg h6]; rfl
  | succ m ih =>
    intro j k hj hk
    obtain ⟨k, rfl⟩ : ∃ k', k = k' + 1 := ⟨k - 1, by omega⟩
    simp only [fletchlaw21_ScriptLines.l1]
    rw [if_pos (by omega), if_pos (by omega)]
    have hjs : j < x7.data.toList.length := by rw [Array.length_toList]; show j < x7.size; omega
    by_cases hb : bt x7 (j : Int) = 10
    · rw [if_pos hb]; exact .inl rfl
    · rw [if_neg hb, wrap_id _ (by omega) (by omega)]
      rcases ih (j + 1) k (by omega) (by omega) with h | ⟨h1, h2⟩
      · exact .inl h
      · refine .inr ⟨?_, ?_⟩
        · rw [List.drop_eq_getElem_cons hjs, List.mem_cons, not_or]
          refine ⟨fun e => hb ?_, h1⟩
          rw [bt_byte x7 j (by omega), ← e]; rfl
        · have : k + 1 - (m + 1) - 1 = k - m - 1 := by omega
          rw [this]; exact h2

theorem lines_loop (ls : List ByteArray) (hls : ls.length ≤ 200) : ∀ (n idx k : Nat) (x3 : ByteArray) (acc : List Spec.St) (x5 : Int), idx + n = ls.length → 400 * n + 300 < k → stepLines x3 acc x5 idx → x3.size ≤ 301 * idx →
    fletchlaw21_ScriptLines.l0 k x3 (acc.map toS) x5 ls (ls.length : Int) (idx : Int) = some true := by
  intro n
  induction n with
  | zero =>
    intro idx k x3 acc x5 hi hk hst h3
    obtain ⟨k, rfl⟩ : ∃ k', k = k' + 1 := ⟨k - 1, by omega⟩
    simp only [fletchlaw21_ScriptLines.l0]
    rw [if_neg (by omega)]
    unfold script_Parse.f
    rw [Option.bind_some]
    have hlen : x3.data.toList.length = x3.size := Array.length_toList
    have hp : Spec.parse x3.data.toList = if 0 < x5 then ([], x5, 50) else (acc, 0, 0) := by
      unfold Spec.parse
      rw [if_neg (by omega)]
      rcases hst.2.2 with ⟨_, rfl, rfl, rfl⟩ | ⟨_, h⟩
      · rfl
      · have := h []
        rw [List.append_nil] at this
        rw [this]; rfl
    rw [if_neg (by omega), hp]
    simp only [ansP]
    by_cases h5 : 0 < x5
    · rw [if_pos h5, if_pos h5]
      simp
    · rw [if_neg h5, if_neg h5]
      simp only [if_true]
      show (fletchlaw21_sameSteps.f k (acc.map toS) (acc.map toS)).bind _ = _
      have ha := hst.2.1
      rw [same_refl _ (by simp; omega) k (by simp; omega)]
      rfl
  | succ n ih =>
    intro idx k x3 acc x5 hi hk hst h3
    obtain ⟨k, rfl⟩ : ∃ k', k = k' + 1 := ⟨k - 1, by omega⟩
    simp only [fletchlaw21_ScriptLines.l0]
    rw [if_pos (by omega), if_pos (by omega), if_pos (by omega)]
    obtain ⟨d, hd⟩ : ∃ d, rdOf ByteArray.empty ls (idx : Int) = d := ⟨_, rfl⟩
    rw [hd]
    by_cases hsz : (d.size : Int) > 300
    · rw [if_pos hsz]
    rw [if_neg hsz]
    have hdl : d.data.toList.length = d.size := Array.length_toList
    rcases lines_scan x3 (acc.map toS) x5 (idx : Int) d ls (ls.length : Int) (idx : Int) (by omega) (by omega) d.size 0 k (by omega) (by omega) with h | ⟨h1, h2⟩
    · exact h
    rw [show ((0 : Nat) : Int) = 0 from rfl] at h2
    rw [h2]
    clear h2
    rw [List.drop_zero] at h1
    obtain ⟨k2, hk2⟩ : ∃ k2, k - d.size - 1 = k2 + 1 + 1 := ⟨k - d.size - 3, by omega⟩
    rw [hk2]
    obtain ⟨y3, hy3⟩ : ∃ y3, (if 0 < (idx : Int) then x3 ++ ⟨#[10]⟩ else x3) = y3 := ⟨_, rfl⟩
    have hy3s : y3.size ≤ 301 * idx + 1 := by
      rw [← hy3]; split
      · rw [ByteArray.size_append]; show x3.size + 1 ≤ _; omega
      · omega
    rw [hy3]
    simp only [fletchlaw21_ScriptLines.j2]
    rw [if_pos (by omega)]
    unfold script_Parse.f
    rw [Option.bind_some, parse_line _ h1 (by omega)]
    have hs' : (y3 ++ d).size ≤ 301 * (idx + 1) := by rw [ByteArray.size_append]; omega
    have hsplit : ∀ rest, Spec.parseFrom 0 [] (Spec.splitB 10 (y3 ++ d).data.toList ++ rest) = if 0 < x5 then ([], x5, 50) else Spec.parseFrom idx acc (d.data.toList :: rest) := by
      intro rest
      rcases hst.2.2 with ⟨rfl, rfl, rfl, rfl⟩ | ⟨hpos, h⟩
      · have : y3 = ⟨#[]⟩ := by rw [← hy3]; rfl
        subst this
        have e : ((⟨#[]⟩ : ByteArray) ++ d).data.toList = d.data.toList := by rw [ByteArray.data_append]; simp
        rw [e, splitB_cons_none 10 _ h1]
        rfl
      · have : y3 = x3 ++ ⟨#[10]⟩ := by rw [← hy3, if_pos (by omega)]
        subst this
        have e : (x3 ++ ⟨#[10]⟩ ++ d).data.toList = x3.data.toList ++ 10 :: d.data.toList := by rw [ByteArray.data_append, ByteArray.data_append]; simp
        rw [e, splitB_join, splitB_cons_none 10 _ h1, List.append_assoc]
        exact h _
    have ha := hst.2.1
    have h50 := hst.1
    by_cases hw : Spec.wordsOf d.data.toList = []
    · rw [if_pos hw]
      simp only [ansP, List.map_nil, if_true]
      simp only [List.length_nil]
      simp only [fletchlaw21_ScriptLines.j3, if_true]
      rw [if_neg (by simp), if_pos (by simp; omega), wrap_id _ (by omega) (by omega), List.append_nil]
      refine ih (idx + 1) k2 (y3 ++ d) acc x5 (by omega) (by omega) ⟨h50, by omega, .inr ⟨by omega, fun rest => ?_⟩⟩ hs'
      rw [hsplit]
      simp only [Spec.parseFrom]
      rw [if_pos hw]
    · rw [if_neg hw]
      cases hln : Spec.lineOf (Spec.wordsOf d.data.toList) with
      | none =>
        simp only [ansP, List.map_nil]
        rw [if_neg (by decide)]
        simp only [if_true]
        simp only [List.length_nil]
        simp only [fletchlaw21_ScriptLines.j3]
        rw [if_neg (by simp), if_neg (by decide)]
        by_cases h5 : x5 = 0
        · rw [if_pos h5, if_pos (by simp; omega), wrap_id _ (by omega) (by omega), List.append_nil]
          refine ih (idx + 1) k2 (y3 ++ d) acc ((idx : Int) + 1) (by omega) (by omega) ⟨by omega, by omega, .inr ⟨by omega, fun rest => ?_⟩⟩ hs'
          rw [hsplit, if_neg (by omega), if_pos (by omega)]
          simp only [Spec.parseFrom]
          rw [if_neg hw, hln]
        · rw [if_neg h5, if_pos (by simp; omega), wrap_id _ (by omega) (by omega), List.append_nil]
          refine ih (idx + 1) k2 (y3 ++ d) acc x5 (by omega) (by omega) ⟨h50, by omega, .inr ⟨by omega, fun rest => ?_⟩⟩ hs'
          rw [hsplit, if_pos (by omega), if_pos (by omega)]
      | some s =>
        simp only [ansP, List.map_cons, List.map_nil, if_true]
        simp only [List.length_cons, List.length_nil]
        simp only [fletchlaw21_ScriptLines.j3, if_true]
        rw [if_neg (by simp), if_pos (by simp; omega), wrap_id _ (by omega) (by omega)]
        have e : acc.map toS ++ [toS s] = (acc ++ [s]).map toS := by simp
        rw [e]
        refine ih (idx + 1) k2 (y3 ++ d) (acc ++ [s]) x5 (by omega) (by omega) ⟨h50, by simp; omega, .inr ⟨by omega, fun rest => ?_⟩⟩ hs'
        rw [hsplit]
        simp only [Spec.parseFrom]
        rw [if_neg hw, hln]
        simp only
        rw [if_neg (show ¬ acc.length = 4096 by omega)]

theorem pureLines (l0 : List ByteArray) : ∃ k, fletchlaw21_ScriptLines.f k l0 = some true := by
  refine ⟨400 * 201 + 300, ?_⟩
  unfold fletchlaw21_ScriptLines.f
  rw [wakes_true _ (by decide), Option.bind_some, if_pos rfl]
  by_cases h : (l0.length : Int) > 200
  · rw [if_pos h]
  · rw [if_neg h]
    exact lines_loop l0 (by omega) l0.length 0 _ ⟨#[]⟩ [] 0 (by omega) (by omega) ⟨by omega, by simp, .inl ⟨rfl, rfl, rfl, rfl⟩⟩ (by show 0 ≤ _; omega)
end Go.Proofs.YtpeokbbidipdkaaDoor.Q
