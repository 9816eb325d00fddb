/-
  The printed functions of a line (words, fields, number) answer as the plain words say.
-/
import Derived.Test.YtpeokbbidipdkaaDoorQ2
import Derived.Test.YtpeokbbidipdkaaDoorQ8
import Derived.Test.YtpeokbbidipdkaaDoorSpec
namespace Go.Proofs.YtpeokbbidipdkaaDoor.Q
open Go.RowKit Go.Proofs.YtpeokbbidipdkaaDoorW.PrintWords Go.Proofs.YtpeokbbidipdkaaDoorW.PrintLast Go.Proofs.YtpeokbbidipdkaaDoorW.PrintMore

theorem toList_data (s : ByteArray) : s.toList = s.data.toList := Lib.toList_data s

/-! ### a list of strings, as lists of bytes -/
def dat (l : List ByteArray) : List (List UInt8) := l.map fun s => s.data.toList

def wordsB : List ByteArray := Spec.names.map fun l => ⟨l.toArray⟩
theorem words_f : script_words.f = some wordsB := rfl

theorem idx_loop (x : ByteArray) (ys : List ByteArray) : ∀ (zs : List ByteArray) (k : Nat) (i : Nat), ys.drop i = zs → i + zs.length = ys.length → zs.length < k → ys.length < 1000000 →
    slices_Index_string_string.l0 k ys x (ys.length : Int) (i : Int) = some (Spec.idxFrom x.data.toList i (dat zs))
  | [], k, i, hd, hl, hk, hb => by
    obtain ⟨k, rfl⟩ : ∃ m, k = m + 1 := ⟨k - 1, by simp at hk; omega⟩
    simp only [slices_Index_string_string.l0]
    rw [if_neg (by simp at hl; omega)]
    rfl
  | z :: zs, k, i, hd, hl, hk, hb => by
    obtain ⟨k, rfl⟩ : ∃ m, k = m + 1 := ⟨k - 1, by simp at hk; omega⟩
    simp only [List.length_cons] at hl hk
    simp only [slices_Index_string_string.l0]
    rw [if_pos (by omega), if_pos (by omega), if_pos (by omega)]
    have hz : rdOf ByteArray.empty ys (i : Int) = z := by
      unfold rdOf
      have h1 : ys[i]? = some z := by
        have := congrArg List.head? hd
        rw [List.head?_drop, List.head?_cons] at this
        exact this
      simp [List.getD_eq_getElem?_getD, h1]
    rw [hz, toList_data, toList_data]
    have hw : wrap64 ((i : Int) + 1) = ((i + 1 : Nat) : Int) := by unfold wrap64; omega
    have hd' : ys.drop (i + 1) = zs := by
      rw [← List.drop_drop, hd]; rfl
    have hd2 : dat (z :: zs) = z.data.toList :: dat zs := rfl
    rw [hd2]
    by_cases h : x.data.toList = z.data.toList
    · rw [if_pos h]
      simp only [Spec.idxFrom]
      rw [if_pos h]
    · rw [if_neg h, hw, idx_loop x ys zs k (i + 1) hd' (by omega) (by omega) hb]
      simp only [Spec.idxFrom]
      rw [if_neg h]
      rfl

theorem dat_words : dat wordsB = Spec.names := by
  unfold dat wordsB
  rw [List.map_map]
  conv => rhs; rw [← List.map_id Spec.names]
  rfl

theorem idx_f (x : ByteArray) : slices_Index_string_string.f 12 wordsB x = some (Spec.kindOf x.data.toList - 1) := by
  unfold slices_Index_string_string.f
  have := idx_loop x wordsB wordsB 12 0 rfl (by simp) (by decide) (by decide)
  rw [dat_words] at this
  rw [show ((0 : Nat) : Int) = 0 from rfl] at this
  rw [this]
  unfold Spec.kindOf
  congr 1
  omega

theorem fields_f (a : Int) : script_fields.f 4 a = some (Spec.fieldsOf a) := by
  unfold script_fields.f Spec.fieldsOf
  simp only [script_fields.j0, script_fields.j1, script_fields.j2]
  by_cases h1 : a = 1
  · subst h1; rfl
  by_cases h2 : a = 2
  · subst h2; rfl
  by_cases h3 : a = 3
  · subst h3; rfl
  by_cases h4 : a = 4
  · subst h4; rfl
  by_cases h5 : a = 5
  · subst h5; rfl
  by_cases h6 : a = 6
  · subst h6; rfl
  by_cases h7 : a = 7
  · subst h7; rfl
  by_cases h8 : a = 8
  · subst h8; rfl
  by_cases h9 : a = 9
  · subst h9; rfl
  by_cases h10 : a = 11
  · subst h10; rfl
  simp [h1, h2, h3, h4, h5, h6, h7, h8, h9, h10]

/-! ### number -/
def numAns (l : List UInt8) : Int × Bool := match Spec.numOf l with | some x => (x, true) | none => (0, false)

theorem prefix_eq (a : ByteArray) : Lib.trimPrefix a.data.toList [45] = Spec.digits a.data.toList := by
  unfold Lib.trimPrefix Lib.hasPrefix Spec.digits
  cases h : a.data.toList with
  | nil => simp
  | cons c r =>
    by_cases hc : c = 45
    · subst hc; simp [List.isPrefixOf]
    · have : ([45] : List UInt8).isPrefixOf (c :: r) = false := by simp [List.isPrefixOf, Ne.symm hc]
      rw [this]
      simp [hc]

theorem cut_dig (b : UInt8) : ([48, 49, 50, 51, 52, 53, 54, 55, 56, 57] : List UInt8).contains b = Spec.isDig b := by
  have h : ∀ n : Fin 256, ([48, 49, 50, 51, 52, 53, 54, 55, 56, 57] : List UInt8).contains (UInt8.ofNat n.val) = Spec.isDig (UInt8.ofNat n.val) := by decide +kernel
  have := h ⟨b.toNat, b.toNat_lt⟩
  simpa using this

theorem dropWhile_nil (p : UInt8 → Bool) (l : List UInt8) : l.dropWhile p = [] ↔ l.all p = true := by
  induction l with
  | nil => simp
  | cons c r ih =>
    rw [List.dropWhile_cons, List.all_cons]
    by_cases h : p c = true
    · simp [h, ih]
    · simp [h]

theorem dropWhile_head (p : UInt8 → Bool) (l : List UInt8) {c : UInt8} {r : List UInt8} (h : l.dropWhile p = c :: r) : p c = false := by
  induction l with
  | nil => simp at h
  | cons x l ih =>
    rw [List.dropWhile_cons] at h
    split at h
    · exact ih h
    · rename_i hx
      obtain ⟨rfl, _⟩ := List.cons.inj h
      exact Bool.eq_false_iff.2 hx

theorem trim_nil (l : List UInt8) : Lib.trimS l [48, 49, 50, 51, 52, 53, 54, 55, 56, 57] = [] ↔ l.all Spec.isDig = true := by
  unfold Lib.trimS Lib.trimLeftS Lib.trimRightS
  have hp : (fun x => ([48, 49, 50, 51, 52, 53, 54, 55, 56, 57] : List UInt8).contains x) = Spec.isDig := funext cut_dig
  rw [hp, dropWhile_nil, List.all_reverse]
  constructor
  · intro h
    have h1 : (l.reverse.dropWhile Spec.isDig) = [] := by
      cases hd : l.reverse.dropWhile Spec.isDig with
      | nil => rfl
      | cons c r =>
        rw [hd] at h
        have hc : Spec.isDig c = true := (List.all_eq_true.1 h) c (by simp)
        have h2 := dropWhile_head Spec.isDig _ hd
        rw [hc] at h2
        cases h2
    rw [dropWhile_nil, List.all_reverse] at h1
    exact h1
  · intro h
    have : l.reverse.dropWhile Spec.isDig = [] := by rw [dropWhile_nil, List.all_reverse]; exact h
    rw [this]; rfl

theorem number_f (a : ByteArray) (ha : a.size ≤ 4611686018427387904) : script_number.f a = some (numAns a.data.toList) := by
  have hsz : a.size = a.data.toList.length := Array.length_toList.symm
  unfold script_number.f strings_TrimPrefix.f
  simp only [Option.bind_some, toList_data, prefix_eq]
  unfold numAns Spec.numOf Spec.isNum
  have hlen : (Spec.digits a.data.toList).length ≤ a.data.toList.length := by
    unfold Spec.digits; split <;> simp
  generalize hd : Spec.digits a.data.toList = d at *
  have hds : (⟨d.toArray⟩ : ByteArray).size = d.length := List.size_toArray
  by_cases h0 : d = []
  · rw [if_pos h0]; simp [h0]
  rw [if_neg h0, hds]
  by_cases h1 : (d.length : Int) > 18
  · rw [if_pos h1]
    have : ¬ d.length ≤ 18 := by omega
    simp [this]
  rw [if_neg h1]
  have h1' : d.length ≤ 18 := by omega
  unfold strings_Trim.f
  rw [if_pos ⟨by rw [hds]; omega, by decide, by decide⟩]
  simp only [Option.bind_some]
  by_cases h2 : d.all Spec.isDig = true
  · rw [if_pos ((trim_nil d).2 h2)]
    have hpos : 0 < d.length := List.length_pos_iff.2 h0
    rw [if_pos (by omega)]
    have hat : Spec.isNum a.data.toList = true → strconv_Atoi_40.f a = some (Spec.numVal a.data.toList, none) := by
      intro hn
      unfold strconv_Atoi_40.f
      rw [if_pos (by omega), Spec.atoi_num hn]
    unfold Spec.isNum at hat
    rw [hd] at hat
    obtain ⟨c, r, rfl⟩ : ∃ c r, d = c :: r := by cases d with | nil => exact absurd rfl h0 | cons c r => exact ⟨c, r, rfl⟩
    have hbt : bt (⟨(c :: r).toArray⟩ : ByteArray) 0 = (c.toNat : Int) := by
      unfold bt
      rw [dif_pos (by rw [hds]; simp)]
      rfl
    rw [hbt]
    have h17 : r.length ≤ 17 := by simpa using h1'
    by_cases h3 : (c.toNat : Int) = 48
    · have hc : c = 48 := UInt8.toNat_inj.1 (by have : (48 : UInt8).toNat = 48 := by decide
                                                omega)
      subst hc
      rw [if_pos h3]
      by_cases h4 : a.data.toList = [48]
      · rw [if_pos h4]
        have hn := hat (by simp [h2, h17, h4])
        rw [hn]
        simp [h2, h17, h4]
      · rw [if_neg h4]; simp [h4]
    · have hc : c ≠ 48 := fun e => h3 (by rw [e]; decide)
      rw [if_neg h3]
      have hn := hat (by simp [h2, h17, hc])
      rw [hn]
      simp [h2, h17, hc]
  · rw [if_neg (fun e => h2 ((trim_nil d).1 e))]
    simp [h2]

end Go.Proofs.YtpeokbbidipdkaaDoor.Q
