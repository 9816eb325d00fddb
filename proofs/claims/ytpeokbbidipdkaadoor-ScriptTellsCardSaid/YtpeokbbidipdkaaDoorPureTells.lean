/-
  ScriptTells in plain Lean: the reference's text is the plain words' text.
-/
import Derived.Test.YtpeokbbidipdkaaDoorPure
import Derived.Test.YtpeokbbidipdkaaDoorQ17
namespace Go.Proofs.YtpeokbbidipdkaaDoor.Q
open Go Go.RowKit Go.Proofs.YtpeokbbidipdkaaDoorW.PrintWords Go.Proofs.YtpeokbbidipdkaaDoorW.PrintLast Go.Proofs.YtpeokbbidipdkaaDoorW.PrintMore
set_option linter.unusedVariables false
set_option linter.unusedSimpArgs false

def numsText : List Int → Option (List UInt8)
  | [] => some []
  | x :: r => if Spec.wide x then none else (numsText r).map fun t => 32 :: Lib.itoa x ++ t
/-- A step's numbers, what its fields alone say, what is left without them. -/
def nums (s : Spec.St) : List Int := (Spec.fieldsOf s.k).map (Spec.get s)
def only (s : Spec.St) : Spec.St := (Spec.fieldsOf s.k).foldl (fun r f => Spec.put r f (Spec.get s f)) ⟨s.k, 0, 0, 0, 0⟩
def less (s : Spec.St) : Spec.St := (Spec.fieldsOf s.k).foldl (fun r f => Spec.put r f 0) { s with k := 0 }

theorem kinds {k : Int} (h : ¬ (k < 1 ∨ 11 < k)) : k = 1 ∨ k = 2 ∨ k = 3 ∨ k = 4 ∨ k = 5 ∨ k = 6 ∨ k = 7 ∨ k = 8 ∨ k = 9 ∨ k = 10 ∨ k = 11 := by omega

theorem name_in {k : Int} (h : ¬ (k < 1 ∨ 11 < k)) : ∃ b, fletchref21_name.f k = some b ∧ b.data.toList = Spec.nameOf k ∧ b.data.toList ≠ [] ∧ b.size ≤ 7 := by
  rcases kinds h with rfl | rfl | rfl | rfl | rfl | rfl | rfl | rfl | rfl | rfl | rfl <;> exact ⟨_, rfl, rfl, by decide, by decide⟩
theorem name_out {k : Int} (h : k < 1 ∨ 11 < k) : fletchref21_name.f k = some ⟨#[]⟩ := by
  unfold fletchref21_name.f
  rw [if_neg (by omega), if_neg (by omega), if_neg (by omega), if_neg (by omega), if_neg (by omega), if_neg (by omega), if_neg (by omega), if_neg (by omega), if_neg (by omega), if_neg (by omega), if_neg (by omega)]

theorem told_ref (s : Spec.St) (h : ¬ (s.k < 1 ∨ 11 < s.k)) (K : Nat) : fletchref21_told.f (K + 4) s.k s.n s.o s.i s.j = some (nums s) := by
  obtain ⟨k, n, o, i, j⟩ := s
  simp only at h ⊢
  rcases kinds h with rfl | rfl | rfl | rfl | rfl | rfl | rfl | rfl | rfl | rfl | rfl <;>
    simp [fletchref21_told.f, fletchref21_told.j0, fletchref21_told.j1, fletchref21_told.j2, nums, Spec.fieldsOf, Spec.get]
theorem made_ref (s : Spec.St) (h : ¬ (s.k < 1 ∨ 11 < s.k)) (K : Nat) : fletchref21_made.f (K + 4) s.k (nums s) = some ((only s).k, (only s).n, (only s).o, (only s).i, (only s).j, true) := by
  obtain ⟨k, n, o, i, j⟩ := s
  simp only at h ⊢
  rcases kinds h with rfl | rfl | rfl | rfl | rfl | rfl | rfl | rfl | rfl | rfl | rfl <;>
    simp [fletchref21_made.f, fletchref21_made.j0, fletchref21_made.j1, fletchref21_made.j2, nums, only, Spec.fieldsOf, Spec.get, Spec.put, rd]
theorem only_less (s : Spec.St) (h : ¬ (s.k < 1 ∨ 11 < s.k)) : (only s = s ↔ less s = Spec.zeroSt) ∧ (only s).k = s.k := by
  obtain ⟨k, n, o, i, j⟩ := s
  simp only at h ⊢
  rcases kinds h with rfl | rfl | rfl | rfl | rfl | rfl | rfl | rfl | rfl | rfl | rfl <;>
    simp [only, less, Spec.fieldsOf, Spec.get, Spec.put, Spec.zeroSt, eq_comm]
theorem fields_nums (s : Spec.St) (h : ¬ (s.k < 1 ∨ 11 < s.k)) : Spec.fieldsText (Spec.fieldsOf s.k) { s with k := 0 } = (numsText (nums s)).map fun t => (t, less s) := by
  obtain ⟨k, n, o, i, j⟩ := s
  simp only at h ⊢
  rcases kinds h with rfl | rfl | rfl | rfl | rfl | rfl | rfl | rfl | rfl | rfl | rfl <;>
    simp only [Spec.fieldsText, numsText, nums, less, Spec.fieldsOf, Spec.get, Spec.put, List.map_cons, List.map_nil, List.foldl_cons, List.foldl_nil, if_true, true_or, or_true, or_self, if_false, Int.reduceEq, or_false, false_or] <;>
    by_cases h1 : Spec.wide n <;> by_cases h2 : Spec.wide o <;> by_cases h3 : Spec.wide i <;> by_cases h4 : Spec.wide j <;> simp [h1, h2, h3, h4]
theorem nums_len (s : Spec.St) : (nums s).length ≤ 3 := by
  unfold nums Spec.fieldsOf
  rw [List.length_map]
  split
  · simp
  · split
    · simp
    · split
      · simp
      · split <;> simp

theorem numsText_len : ∀ (xs : List Int) (t : List UInt8), numsText xs = some t → t.length ≤ 22 * xs.length
  | [], t, h => by simp [numsText] at h; subst h; simp
  | x :: r, t, h => by
    simp only [numsText] at h
    by_cases hw : Spec.wide x
    · rw [if_pos hw] at h; cases h
    · rw [if_neg hw] at h
      obtain ⟨u, hu, rfl⟩ := Option.map_eq_some_iff.1 h
      have h1 := numsText_len r u hu
      have h2 := Spec.itoa_len x hw
      simp only [List.length_append, List.length_cons]
      omega

/-- What the reference does behind a line's numbers. -/
def refEnd (k : Nat) (x4 x7 : ByteArray) (L : List S36) (x14 : Int) (s : Spec.St) : Option (ByteArray × Int) :=
  if only s = s then fletchref21_Text.l0 k ((x4 ++ x7) ++ ⟨#[10]⟩) L (L.length : Int) (wrap64 (x14 + 1)) else some (⟨#[]⟩, 1)

theorem ref_nums (x4 : ByteArray) (L : List S36) (x14 : Int) (s : Spec.St) (h : ¬ (s.k < 1 ∨ 11 < s.k)) (h4 : x4.size ≤ 1000000000) : ∀ (n j k : Nat) (x7 : ByteArray), j + n = (nums s).length → n + 10 < k → x7.size ≤ 1000 + 22 * j →
    fletchref21_Text.l1 k x4 x7 L (L.length : Int) x14 (nums s) ((nums s).length : Int) (j : Int) s.k s.n s.o s.i s.j =
      match numsText ((nums s).drop j) with | none => some (⟨#[]⟩, 1) | some t => refEnd (k - n - 1) x4 (x7 ++ ⟨t.toArray⟩) L x14 s := by
  have hn3 := nums_len s
  intro n
  induction n with
  | zero =>
    intro j k x7 hj hk h7
    obtain ⟨k, rfl⟩ : ∃ k', k = k' + 4 + 1 := ⟨k - 5, by omega⟩
    simp only [fletchref21_Text.l1]
    rw [if_neg (by omega), told_ref s h, Option.bind_some, made_ref s h, Option.bind_some, List.drop_of_length_le (by omega)]
    simp only [numsText, if_true]
    have e7 : x7 ++ (⟨([] : List UInt8).toArray⟩ : ByteArray) = x7 := by apply ByteArray.ext; rw [ByteArray.data_append]; simp
    rw [e7]
    unfold refEnd
    by_cases he : only s = s
    · rw [if_pos he, he, if_neg (by simp), if_pos (by omega), if_pos (by rw [ByteArray.size_append]; omega)]
      rfl
    · rw [if_neg he, if_pos]
      obtain ⟨a1, a2, a3, a4, a5⟩ := s
      generalize only ⟨a1, a2, a3, a4, a5⟩ = q at he
      obtain ⟨b1, b2, b3, b4, b5⟩ := q
      simp only [Spec.St.mk.injEq, not_and] at he
      by_cases c1 : b1 = a1
      · by_cases c2 : b2 = a2
        · by_cases c3 : b3 = a3
          · by_cases c4 : b4 = a4
            · have := he c1 c2 c3 c4
              simp [this]
            · simp [c4]
          · simp [c3]
        · simp [c2]
      · simp [c1]
  | succ n ih =>
    intro j k x7 hj hk h7
    obtain ⟨k, rfl⟩ : ∃ k', k = k' + 1 := ⟨k - 1, by omega⟩
    simp only [fletchref21_Text.l1]
    rw [if_pos (by omega), if_pos (by omega), if_pos (by omega)]
    obtain ⟨x, hx⟩ : ∃ x, rd (nums s) (j : Int) = x := ⟨_, rfl⟩
    have hd : (nums s).drop j = x :: (nums s).drop (j + 1) := by
      rw [List.drop_eq_getElem_cons (by omega), ← hx]
      have hjl : j < (nums s).length := by omega
      simp [rd, List.getD_eq_getElem?_getD, hjl]
    rw [hx, hd]
    simp only [numsText]
    by_cases hw : Spec.wide x
    · rw [if_pos hw]
      unfold Spec.wide at hw
      by_cases hw1 : x > 999999999999999999
      · rw [if_pos hw1]
      · rw [if_neg hw1, if_pos (by omega)]
    · rw [if_neg hw]
      have hl := Spec.itoa_len x hw
      unfold Spec.wide at hw
      have hit : strconv_Itoa_22.f x = some ⟨(Lib.itoa x).toArray⟩ := by unfold strconv_Itoa_22.f; rw [if_pos (by omega)]
      have hs : (⟨(Lib.itoa x).toArray⟩ : ByteArray).size = (Lib.itoa x).length := by show (Lib.itoa x).toArray.size = _; simp
      have h32 : (⟨#[32]⟩ : ByteArray).size = 1 := rfl
      rw [if_neg (by omega), if_neg (by omega), if_pos (by omega), hit, Option.bind_some, if_pos (by rw [ByteArray.size_append, hs, h32]; omega), wrap_id _ (by omega) (by omega)]
      have := ih (j + 1) k (x7 ++ ⟨#[32]⟩ ++ ⟨(Lib.itoa x).toArray⟩) (by omega) (by omega) (by rw [ByteArray.size_append, ByteArray.size_append, hs, h32]; omega)
      rw [show ((j + 1 : Nat) : Int) = (j : Int) + 1 from by omega] at this
      rw [this]
      cases hnt : numsText ((nums s).drop (j + 1)) with
      | none => rfl
      | some t =>
        simp only [Option.map_some]
        have e1 : k - n - 1 = k + 1 - (n + 1) - 1 := by omega
        have e2 : x7 ++ ⟨#[32]⟩ ++ ⟨(Lib.itoa x).toArray⟩ ++ ⟨t.toArray⟩ = x7 ++ (⟨(32 :: Lib.itoa x ++ t).toArray⟩ : ByteArray) := by
          apply ByteArray.ext
          simp only [ByteArray.data_append]
          apply Array.ext'
          simp
        rw [e1, e2]

theorem ref_text (L : List S36) (hL : L.length ≤ 8192) : ∀ (n j k : Nat) (x4 : ByteArray), j + n = L.length → 40 * n + 50 < k → x4.size ≤ 200 * j →
    fletchref21_Text.l0 k x4 L (L.length : Int) (j : Int) = some (fin x4.data.toList (Spec.textOf ((L.drop j).map ofS))) := by
  intro n
  induction n with
  | zero =>
    intro j k x4 hj hk h4
    obtain ⟨k, rfl⟩ : ∃ k', k = k' + 1 := ⟨k - 1, by omega⟩
    simp only [fletchref21_Text.l0]
    rw [if_neg (by omega), List.drop_of_length_le (by omega)]
    simp [Spec.textOf, fin]
  | succ n ih =>
    intro j k x4 hj hk h4
    obtain ⟨k, rfl⟩ : ∃ k', k = k' + 8 + 1 := ⟨k - 9, by omega⟩
    simp only [fletchref21_Text.l0]
    rw [if_pos (by omega), if_pos (by omega), if_pos (by omega)]
    obtain ⟨s, hs⟩ : ∃ s, rd_T36 L (j : Int) = s := ⟨_, rfl⟩
    have hjl : j < L.length := by omega
    have hd : (L.drop j).map ofS = ofS s :: (L.drop (j + 1)).map ofS := by
      have e : rd_T36 L (j : Int) = L[j] := by simp [rd_T36, List.getD_eq_getElem?_getD, hjl]
      rw [List.drop_eq_getElem_cons hjl, List.map_cons, ← hs, e]
    rw [hs, hd]
    by_cases hk1 : (ofS s).k < 1 ∨ 11 < (ofS s).k
    · rw [Spec.textOf_bad _ _ hk1, name_out (show s.f0 < 1 ∨ 11 < s.f0 from hk1), Option.bind_some, if_pos (by rw [toList_data])]
      rfl
    · obtain ⟨b, hb1, hb2, hb3, hb4⟩ := name_in (show ¬ (s.f0 < 1 ∨ 11 < s.f0) from hk1)
      have ht := told_ref (ofS s) hk1 (k + 4)
      rw [Spec.textOf_good _ _ hk1, fields_nums _ hk1, hb1, Option.bind_some, if_neg (by rw [toList_data]; exact hb3), Option.bind_some]
      rw [show fletchref21_told.f (k + 8) s.f0 s.f1 s.f2 s.f3 s.f4 = some (nums (ofS s)) from ht, Option.bind_some]
      have hn3 := nums_len (ofS s)
      have := ref_nums x4 L (j : Int) (ofS s) hk1 (by omega) (nums (ofS s)).length 0 (k + 8) b (by omega) (by omega) (by omega)
      rw [show ((0 : Nat) : Int) = 0 from rfl, List.drop_zero] at this
      rw [show fletchref21_Text.l1 (k + 8) x4 b L (↑L.length) (↑j) (nums (ofS s)) (↑(nums (ofS s)).length) 0 s.f0 s.f1 s.f2 s.f3 s.f4 = _ from this]
      cases hnt : numsText (nums (ofS s)) with
      | none => rfl
      | some t =>
        simp only [Option.map_some, Spec.endText]
        unfold refEnd
        by_cases he : only (ofS s) = ofS s
        · rw [if_pos he, if_pos (((only_less _ hk1).1).1 he), wrap_id _ (by omega) (by omega)]
          have ht1 : t.length ≤ 66 := by have := numsText_len _ _ hnt; omega
          have hbs : (⟨t.toArray⟩ : ByteArray).size = t.length := by show t.toArray.size = _; simp
          have := ih (j + 1) (k + 8 - (nums (ofS s)).length - 1) (x4 ++ (b ++ ⟨t.toArray⟩) ++ ⟨#[10]⟩) (by omega) (by omega) (by
            rw [ByteArray.size_append, ByteArray.size_append, ByteArray.size_append, hbs, show (⟨#[10]⟩ : ByteArray).size = 1 from rfl]; omega)
          rw [show ((j + 1 : Nat) : Int) = (j : Int) + 1 from by omega] at this
          rw [this]
          have e : (x4 ++ (b ++ ⟨t.toArray⟩) ++ ⟨#[10]⟩ : ByteArray).data.toList = x4.data.toList ++ (Spec.nameOf (ofS s).k ++ (t ++ [10])) := by
            simp only [ByteArray.data_append, Array.toList_append, hb2]
            simp [ofS]
          rw [e]
          cases Spec.textOf ((L.drop (j + 1)).map ofS) with
          | none => rfl
          | some u => simp [fin]
        · rw [if_neg he, if_neg (fun h => he (((only_less _ hk1).1).2 h))]
          rfl

theorem pureTells (l0 : List S36) : ∃ k, fletchlaw21_ScriptTells.f k l0 = some true := by
  refine ⟨40 * 8192 + 100, ?_⟩
  unfold fletchlaw21_ScriptTells.f
  rw [wakes_true _ (by decide), Option.bind_some, if_pos rfl]
  by_cases h : (l0.length : Int) > 8192
  · rw [if_pos h]
  rw [if_neg h]
  have ht : script_Text.f l0 = some (fin [] (Spec.textOf (l0.map ofS))) := by unfold script_Text.f; rw [if_pos (by omega)]
  have hr := ref_text l0 (by omega) l0.length 0 (40 * 8192 + 100) ⟨#[]⟩ (by omega) (by omega) (by show 0 ≤ _; omega)
  rw [List.drop_zero] at hr
  rw [ht, Option.bind_some, fletchref21_Text.f, show fletchref21_Text.l0 (40 * 8192 + 100) ⟨#[]⟩ l0 (↑l0.length) 0 = _ from hr, Option.bind_some, if_pos rfl]
  simp
end Go.Proofs.YtpeokbbidipdkaaDoor.Q
