/-
  ScriptParses in plain Lean: the reference's parse is the plain words' parse.
-/
import Derived.Test.YtpeokbbidipdkaaDoorPure
import Derived.Test.YtpeokbbidipdkaaDoorPureBase
import Derived.Test.YtpeokbbidipdkaaDoorQ14
namespace Go.Proofs.YtpeokbbidipdkaaDoor.Q
open Go Go.RowKit Go.Proofs.YtpeokbbidipdkaaDoorW.PrintWords Go.Proofs.YtpeokbbidipdkaaDoorW.PrintLast Go.Proofs.YtpeokbbidipdkaaDoorW.PrintMore
set_option linter.unusedVariables false
set_option linter.unusedSimpArgs false

/-! ### Numbers -/
def numA (l : List UInt8) : Int × Bool := match Spec.numOf l with | some v => (v, true) | none => (0, false)

theorem num_loop (x0 : ByteArray) (x4 : Int) (hs : x0.size ≤ 1000) : ∀ (n j k a : Nat), j + n = x0.size → n < k → (a + 1) * 10 ^ n ≤ 1000000000000000000 →
    fletchref21_number.l0 k x0 x4 (a : Int) (j : Int) = if (x0.data.toList.drop j).all Spec.isDig = true then some (if x4 = 1 then -(Spec.valOf a (x0.data.toList.drop j) : Int) else (Spec.valOf a (x0.data.toList.drop j) : Int), true) else some (0, false) := by
  have hlen : x0.data.toList.length = x0.size := Array.length_toList
  intro n
  induction n with
  | zero =>
    intro j k a hj hk ha
    obtain ⟨k, rfl⟩ : ∃ k', k = k' + 1 := ⟨k - 1, by omega⟩
    simp only [fletchref21_number.l0]
    rw [if_neg (by omega), List.drop_of_length_le (by omega), if_pos (show ([] : List UInt8).all Spec.isDig = true from rfl), Spec.valOf_nil]
    simp only [Nat.pow_zero, Nat.mul_one] at ha
    by_cases h4 : x4 = 1
    · rw [if_pos h4, if_pos h4, wrap_id _ (by omega) (by omega)]
    · rw [if_neg h4, if_neg h4]
  | succ n ih =>
    intro j k a hj hk ha
    obtain ⟨k, rfl⟩ : ∃ k', k = k' + 1 := ⟨k - 1, by omega⟩
    simp only [fletchref21_number.l0]
    have hjl : j < x0.data.toList.length := by omega
    obtain ⟨c, hc⟩ : ∃ c, x0.data.toList[j] = c := ⟨_, rfl⟩
    rw [if_pos (by omega), if_pos (by omega), bt_byte x0 j (by omega), List.drop_eq_getElem_cons hjl, List.all_cons, hc]
    have hcr : c.toNat < 256 := c.toNat_lt
    by_cases h1 : (c.toNat : Int) < 48
    · rw [if_pos h1, if_neg (by simp [Spec.isDig]; omega)]
    · rw [if_neg h1]
      by_cases h2 : (c.toNat : Int) > 57
      · rw [if_pos h2, if_neg (by simp [Spec.isDig]; omega)]
      · rw [if_neg h2]
        have hd : Spec.isDig c = true := by simp [Spec.isDig]; omega
        have hp : 1 ≤ 10 ^ n := Nat.one_le_pow _ _ (by decide)
        rw [Nat.pow_succ] at ha
        have h9 : c.toNat - 48 ≤ 9 := by omega
        have hm := Spec.mul_step a (c.toNat - 48) (10 ^ n) h9
        have hb2 : (a + 1) * 10 ≤ 1000000000000000000 := by
          have := Nat.mul_le_mul_left (a + 1) (Nat.mul_le_mul_right 10 hp)
          omega
        have e : wrap64 (wrap64 ((a : Int) * 10) + ((c.toNat : Int) - 48) % 256) = ((a * 10 + (c.toNat - 48) : Nat) : Int) := by
          rw [wrap_id ((a : Int) * 10) (by omega) (by omega), wrap_id _ (by omega) (by omega)]
          omega
        rw [e, wrap_id _ (by omega) (by omega)]
        have := ih (j + 1) k (a * 10 + (c.toNat - 48)) (by omega) (by omega) (by omega)
        rw [show ((j + 1 : Nat) : Int) = (j : Int) + 1 from by omega] at this
        rw [this, hd, Bool.true_and, Spec.valOf_cons]

theorem number_ref (x0 : ByteArray) (K : Nat) (hK : 40 ≤ K) (hsz : x0.size ≤ 1000000) : fletchref21_number.f K x0 = some (numA x0.data.toList) := by
  have hlen : x0.data.toList.length = x0.size := Array.length_toList
  obtain ⟨K, rfl⟩ : ∃ k, K = k + 3 := ⟨K - 3, by omega⟩
  -- behind the sign
  have key : ∀ (at_ : Nat), at_ ≤ 1 → (x0.data.toList.head? = some 45 ↔ at_ = 1) → (at_ = 1 → 0 < x0.size) → fletchref21_number.j1 (K + 2) x0 (at_ : Int) = some (numA x0.data.toList) := by
    intro at_ h1 hh h0
    have hdg : Spec.digits x0.data.toList = x0.data.toList.drop at_ := by
      unfold Spec.digits
      by_cases h : x0.data.toList.head? = some 45
      · rw [if_pos h, hh.1 h]; cases x0.data.toList <;> rfl
      · have h10 : ¬ at_ = 1 := fun e => h (hh.2 e)
        have : at_ = 0 := by omega
        rw [if_neg h, this]; rfl
    have hdl : (Spec.digits x0.data.toList).length = x0.size - at_ := by rw [hdg, List.length_drop, hlen]
    have bad : Spec.isNum x0.data.toList = false → numA x0.data.toList = (0, false) := by
      intro h; unfold numA Spec.numOf; rw [if_neg (by simp [h])]
    simp only [fletchref21_number.j1]
    rw [wrap_id _ (by omega) (by omega)]
    by_cases c1 : (x0.size : Int) - (at_ : Int) < 1
    · rw [if_pos c1]
      simp only [fletchref21_number.j2, if_true]
      rw [bad]
      have : Spec.digits x0.data.toList = [] := List.eq_nil_of_length_eq_zero (by omega)
      simp [Spec.isNum, this]
    rw [if_neg c1]
    by_cases c2 : (x0.size : Int) - (at_ : Int) > 18
    · rw [if_pos c2]
      simp only [fletchref21_number.j2, if_true]
      rw [bad]
      have : ¬ (Spec.digits x0.data.toList).length ≤ 18 := by omega
      simp [Spec.isNum, this]
    rw [if_neg c2, if_pos (by omega), if_pos (by omega), bt_byte x0 at_ (by omega)]
    have hal : at_ < x0.data.toList.length := by omega
    obtain ⟨c, hc⟩ : ∃ c, x0.data.toList[at_] = c := ⟨_, rfl⟩
    have hne : Spec.digits x0.data.toList ≠ [] := by intro e; rw [e] at hdl; simp at hdl; omega
    have hhead : (Spec.digits x0.data.toList).head? = some c := by rw [hdg, List.drop_eq_getElem_cons hal, hc]; rfl
    rw [hc]
    -- the digits' loop
    have loop : ((c.toNat : Int) = 48 → ¬ (x0.size : Int) > 1) → fletchref21_number.l0 K x0 (at_ : Int) 0 (at_ : Int) = some (numA x0.data.toList) := by
      intro hz
      have hl := num_loop x0 (at_ : Int) (by omega) (x0.size - at_) at_ K 0 (by omega) (by omega) (by
        have h10 : 10 ^ (x0.size - at_) ≤ 10 ^ 18 := Nat.pow_le_pow_right (by decide) (by omega)
        have : (10 : Nat) ^ 18 = 1000000000000000000 := by decide
        omega)
      rw [show ((0 : Nat) : Int) = 0 from rfl] at hl
      rw [hl, ← hdg]
      have hor : ((Spec.digits x0.data.toList).head? ≠ some 48) ∨ x0.data.toList = [48] := by
        by_cases h48 : c = 48
        · have hs1 : x0.size = 1 := by have := hz (by rw [h48]; rfl); omega
          have ha0 : at_ = 0 := by omega
          subst ha0
          right
          match hxl : x0.data.toList, (show x0.data.toList.length = 1 by omega) with
          | [y], _ =>
            have : y = c := by rw [← hc]; simp [hxl]
            rw [this, h48]
        · left; rw [hhead]; intro e; exact h48 (Option.some.inj e)
      by_cases hall : (Spec.digits x0.data.toList).all Spec.isDig = true
      · rw [if_pos hall]
        have hin : Spec.isNum x0.data.toList = true := by
          unfold Spec.isNum
          simp only [Bool.and_eq_true, Bool.or_eq_true, decide_eq_true_eq]
          exact ⟨⟨⟨hne, by omega⟩, hall⟩, hor⟩
        unfold numA Spec.numOf
        rw [if_pos hin]
        unfold Spec.numVal
        by_cases h45 : x0.data.toList.head? = some 45
        · rw [if_pos h45, if_pos (by have := hh.1 h45; omega)]
        · rw [if_neg h45, if_neg (by intro e; exact h45 (hh.2 (by omega)))]
      · rw [if_neg hall, bad]
        unfold Spec.isNum
        simp only [Bool.and_eq_false_iff]
        exact .inl (.inr (by simpa using hall))
    by_cases c3 : (c.toNat : Int) = 48
    · rw [if_pos c3]
      simp only [fletchref21_number.j2]
      by_cases c4 : (x0.size : Int) > 1
      · rw [if_pos (by simpa using c4), bad]
        have h48 : c = 48 := by
          apply UInt8.toNat_inj.1; show c.toNat = 48; omega
        have hl1 : ¬ x0.data.toList = [48] := by intro e; rw [e] at hlen; simp at hlen; omega
        unfold Spec.isNum
        rw [hhead, h48]
        simp [hl1]
      · rw [if_neg (by simpa using c4)]
        exact loop (fun _ => c4)
    · rw [if_neg c3]
      simp only [fletchref21_number.j2]
      rw [if_neg (by simp)]
      exact loop (fun h => absurd h c3)
  unfold fletchref21_number.f
  by_cases h0 : (x0.size : Int) > 0
  · rw [if_pos h0, if_pos (by omega)]
    have hal : 0 < x0.data.toList.length := by omega
    have hb := bt_byte x0 0 (by omega)
    rw [show ((0 : Nat) : Int) = 0 from rfl] at hb
    obtain ⟨c, hc⟩ : ∃ c, x0.data.toList[0] = c := ⟨_, rfl⟩
    have hhd : x0.data.toList.head? = some c := by rw [List.head?_eq_getElem?, List.getElem?_eq_getElem hal, hc]
    rw [hb, hc]
    simp only [fletchref21_number.j0]
    by_cases c45 : c = 45
    · rw [if_pos (by rw [c45]; rfl)]
      have := key 1 (by omega) (by rw [hhd, c45]; simp) (fun _ => by omega)
      exact this
    · rw [if_neg (by
        intro e
        have := beq_iff_eq.1 e
        exact c45 (UInt8.toNat_inj.1 (by show c.toNat = 45; omega)))]
      have := key 0 (by omega) (by rw [hhd]; simp [c45]) (fun h => by omega)
      exact this
  · rw [if_neg h0]
    simp only [fletchref21_number.j0]
    rw [if_neg (by simp)]
    have hnil : x0.data.toList = [] := List.eq_nil_of_length_eq_zero (by omega)
    have := key 0 (by omega) (by rw [hnil]; simp) (fun h => by omega)
    exact this

/-! ### Words -/
def joinH (cur : List UInt8) (L : List (List UInt8)) : List (List UInt8) := match L with | [] => [cur] | y :: ys => (cur ++ y) :: ys
def wordsFrom (cur rest : List UInt8) : List (List UInt8) := (joinH cur (Spec.splitB 32 rest)).filter fun w => decide (w ≠ [])
theorem wordsFrom_nil (r : List UInt8) : wordsFrom [] r = Spec.wordsOf r := by
  unfold wordsFrom Spec.wordsOf
  obtain ⟨y, ys, e⟩ := Range.splitB_ne 32 r
  rw [e]; rfl
theorem wordsFrom_end (cur : List UInt8) : wordsFrom cur [] = if cur = [] then [] else [cur] := by
  unfold wordsFrom
  simp only [Spec.splitB, joinH, List.append_nil]
  by_cases h : cur = []
  · rw [if_pos h, h]; rfl
  · rw [if_neg h]; simp [h]
theorem wordsFrom_blank (cur r : List UInt8) : wordsFrom cur (32 :: r) = (if cur = [] then [] else [cur]) ++ wordsFrom [] r := by
  rw [wordsFrom_nil]
  unfold wordsFrom Spec.wordsOf
  simp only [Spec.splitB, if_true, joinH, List.append_nil, List.filter_cons]
  by_cases h : cur = []
  · rw [if_pos h, h]; simp
  · rw [if_neg h]; simp [h]
theorem wordsFrom_char (cur r : List UInt8) (c : UInt8) (h : c ≠ 32) : wordsFrom cur (c :: r) = wordsFrom (cur ++ [c]) r := by
  unfold wordsFrom
  simp only [Spec.splitB]
  rw [if_neg h]
  obtain ⟨y, ys, e⟩ := Range.splitB_ne 32 r
  rw [e]
  simp [joinH]

theorem words_loop (x0 : ByteArray) (hs : x0.size ≤ 100000) : ∀ (n j k : Nat) (out : List ByteArray) (cur : ByteArray), j + n = x0.size → n < k → out.length ≤ j → cur.size ≤ j →
    ∃ ws, fletchref21_words.l0 k x0 out cur (j : Int) = some (out ++ ws) ∧ dat ws = wordsFrom cur.data.toList (x0.data.toList.drop j) := by
  have hlen : x0.data.toList.length = x0.size := Array.length_toList
  intro n
  induction n with
  | zero =>
    intro j k out cur hj hk ho hc
    obtain ⟨k, rfl⟩ : ∃ k', k = k' + 1 := ⟨k - 1, by omega⟩
    simp only [fletchref21_words.l0]
    rw [if_neg (by omega), List.drop_of_length_le (by omega), wordsFrom_end, toList_data]
    by_cases h : cur.data.toList = []
    · rw [if_pos h, if_pos h]; exact ⟨[], by simp, rfl⟩
    · rw [if_neg h, if_neg h, if_pos (by omega)]; exact ⟨[cur], rfl, rfl⟩
  | succ n ih =>
    intro j k out cur hj hk ho hc
    obtain ⟨k, rfl⟩ : ∃ k', k = k' + 1 := ⟨k - 1, by omega⟩
    simp only [fletchref21_words.l0]
    have hjl : j < x0.data.toList.length := by omega
    obtain ⟨c, hcc⟩ : ∃ c, x0.data.toList[j] = c := ⟨_, rfl⟩
    rw [if_pos (by omega), if_pos (by omega), bt_byte x0 j (by omega), List.drop_eq_getElem_cons hjl, hcc, toList_data, wrap_id _ (by omega) (by omega)]
    have ej : ((j + 1 : Nat) : Int) = (j : Int) + 1 := by omega
    by_cases c32 : (c.toNat : Int) = 32
    · have hc32 : c = 32 := UInt8.toNat_inj.1 (by show c.toNat = 32; omega)
      rw [if_pos c32, hc32, wordsFrom_blank]
      by_cases h : cur.data.toList = []
      · rw [if_pos h, if_pos h, List.nil_append]
        have := ih (j + 1) k out ⟨#[]⟩ (by omega) (by omega) (by omega) (by show 0 ≤ _; omega)
        rw [ej] at this
        exact this
      · rw [if_neg h, if_neg h, if_pos (by omega)]
        obtain ⟨ws, h1, h2⟩ := ih (j + 1) k (out ++ [cur]) ⟨#[]⟩ (by omega) (by omega) (by simp; omega) (by show 0 ≤ _; omega)
        rw [ej] at h1
        refine ⟨cur :: ws, by rw [h1]; simp, ?_⟩
        show cur.data.toList :: dat ws = _
        rw [h2]; rfl
    · rw [if_neg c32, if_pos (by omega), if_pos (by omega)]
      have hx : (x0.extract ((j : Int)).toNat ((j : Int) + 1).toNat).data.toList = [c] := by
        rw [Lib.extract_data, show ((j : Int)).toNat = j from by omega, show ((j : Int) + 1).toNat - j = 1 from by omega, List.drop_eq_getElem_cons hjl, hcc]; rfl
      have hxs : (x0.extract ((j : Int)).toNat ((j : Int) + 1).toNat).size = 1 := by
        have : (x0.extract ((j : Int)).toNat ((j : Int) + 1).toNat).data.toList.length = 1 := by rw [hx]; rfl
        rw [Array.length_toList] at this; exact this
      rw [if_pos (by omega), wordsFrom_char _ _ _ (fun e => c32 (by rw [e]; rfl))]
      have hcs : (cur ++ x0.extract ((j : Int)).toNat ((j : Int) + 1).toNat).data.toList = cur.data.toList ++ [c] := by rw [ByteArray.data_append, Array.toList_append, hx]
      obtain ⟨ws, h1, h2⟩ := ih (j + 1) k out (cur ++ x0.extract ((j : Int)).toNat ((j : Int) + 1).toNat) (by omega) (by omega) (by omega) (by rw [ByteArray.size_append, hxs]; omega)
      rw [ej] at h1
      rw [hcs] at h2
      exact ⟨ws, h1, h2⟩

theorem words_ref (x0 : ByteArray) (hs : x0.size ≤ 100000) (K : Nat) (hK : x0.size < K) : ∃ ws, fletchref21_words.f K x0 = some ws ∧ dat ws = Spec.wordsOf x0.data.toList := by
  obtain ⟨ws, h1, h2⟩ := words_loop x0 hs x0.size 0 K [] ⟨#[]⟩ (by omega) hK (by simp) (by show 0 ≤ _; omega)
  refine ⟨ws, h1, ?_⟩
  rw [h2, List.drop_zero]
  exact wordsFrom_nil _

/-! ### Lines -/
def allNums : List (List UInt8) → Option (List Int)
  | [] => some []
  | a :: r => match Spec.numOf a with | none => none | some x => (allNums r).map (x :: ·)
def fillN : List Int → List Int → Spec.St → Spec.St
  | f :: fs, x :: xs, s => fillN fs xs (Spec.put s f x)
  | _, _, s => s
theorem fill_none : ∀ (fs : List Int) (bs : List (List UInt8)) (s : Spec.St), bs.length = fs.length → allNums bs = none → Spec.fill fs bs s = none
  | [], [], s, _, h => by simp [allNums] at h
  | [], _ :: _, s, h, _ => by simp at h
  | _ :: _, [], s, h, _ => by simp at h
  | f :: fs, a :: bs, s, hl, h => by
    simp only [Spec.fill]
    cases hn : Spec.numOf a with
    | none => rfl
    | some x =>
      simp only [allNums, hn] at h
      exact fill_none fs bs _ (by simpa using hl) (by simpa using h)
theorem fill_some : ∀ (fs : List Int) (bs : List (List UInt8)) (xs : List Int) (s : Spec.St), bs.length = fs.length → allNums bs = some xs → Spec.fill fs bs s = some (fillN fs xs s)
  | [], [], xs, s, _, h => by simp [allNums] at h; subst h; rfl
  | [], _ :: _, xs, s, h, _ => by simp at h
  | _ :: _, [], xs, s, h, _ => by simp at h
  | f :: fs, a :: bs, xs, s, hl, h => by
    simp only [Spec.fill]
    cases hn : Spec.numOf a with
    | none => simp [allNums, hn] at h
    | some x =>
      simp only [allNums, hn] at h
      obtain ⟨ys, hy, rfl⟩ := Option.map_eq_some_iff.1 h
      exact fill_some fs bs ys _ (by simpa using hl) hy
theorem allNums_len : ∀ (bs : List (List UInt8)) (xs : List Int), allNums bs = some xs → xs.length = bs.length
  | [], xs, h => by simp [allNums] at h; subst h; rfl
  | a :: bs, xs, h => by
    simp only [allNums] at h
    cases hn : Spec.numOf a with
    | none => rw [hn] at h; cases h
    | some x =>
      rw [hn] at h
      obtain ⟨ys, hy, rfl⟩ := Option.map_eq_some_iff.1 h
      simp [allNums_len bs ys hy]

theorem len1 {xs : List Int} (h : xs.length = 1) : ∃ x, xs = [x] := by match xs, h with | [x], _ => exact ⟨x, rfl⟩
theorem len2 {xs : List Int} (h : xs.length = 2) : ∃ x y, xs = [x, y] := by match xs, h with | [x, y], _ => exact ⟨x, y, rfl⟩
theorem len3 {xs : List Int} (h : xs.length = 3) : ∃ x y z, xs = [x, y, z] := by match xs, h with | [x, y, z], _ => exact ⟨x, y, z, rfl⟩
theorem made_ok (k : Int) (hk : ¬ (k < 1 ∨ 11 < k)) (xs : List Int) (h : xs.length = (Spec.fieldsOf k).length) (K : Nat) :
    fletchref21_made.f (K + 4) k xs = some ((fillN (Spec.fieldsOf k) xs ⟨k, 0, 0, 0, 0⟩).k, (fillN (Spec.fieldsOf k) xs ⟨k, 0, 0, 0, 0⟩).n, (fillN (Spec.fieldsOf k) xs ⟨k, 0, 0, 0, 0⟩).o, (fillN (Spec.fieldsOf k) xs ⟨k, 0, 0, 0, 0⟩).i, (fillN (Spec.fieldsOf k) xs ⟨k, 0, 0, 0, 0⟩).j, true) := by
  rcases kinds hk with rfl | rfl | rfl | rfl | rfl | rfl | rfl | rfl | rfl | rfl | rfl <;>
    first
    | (obtain ⟨x, y, rfl⟩ := len2 (show xs.length = 2 from h)
       simp [fletchref21_made.f, fletchref21_made.j0, fletchref21_made.j1, fletchref21_made.j2, fillN, Spec.fieldsOf, Spec.put, rd]; done)
    | (obtain ⟨x, rfl⟩ := len1 (show xs.length = 1 from h)
       simp [fletchref21_made.f, fletchref21_made.j0, fletchref21_made.j1, fletchref21_made.j2, fillN, Spec.fieldsOf, Spec.put, rd]; done)
    | (obtain ⟨x, y, z, rfl⟩ := len3 (show xs.length = 3 from h)
       simp [fletchref21_made.f, fletchref21_made.j0, fletchref21_made.j1, fletchref21_made.j2, fillN, Spec.fieldsOf, Spec.put, rd]; done)
theorem made_bad (k : Int) (hk : ¬ (k < 1 ∨ 11 < k)) (xs : List Int) (h : xs.length ≠ (Spec.fieldsOf k).length) (K : Nat) : ∃ a b c d e, fletchref21_made.f (K + 4) k xs = some (a, b, c, d, e, false) := by
  rcases kinds hk with rfl | rfl | rfl | rfl | rfl | rfl | rfl | rfl | rfl | rfl | rfl <;>
    first
    | (have h' : ¬ ((xs.length : Int) = 2) := (by have : ¬ xs.length = 2 := h; omega)
       simp [fletchref21_made.f, fletchref21_made.j0, fletchref21_made.j1, fletchref21_made.j2, h']; done)
    | (have h' : ¬ ((xs.length : Int) = 1) := (by have : ¬ xs.length = 1 := h; omega)
       simp [fletchref21_made.f, fletchref21_made.j0, fletchref21_made.j1, fletchref21_made.j2, h']; done)
    | (have h' : ¬ ((xs.length : Int) = 3) := (by have : ¬ xs.length = 3 := h; omega)
       simp [fletchref21_made.f, fletchref21_made.j0, fletchref21_made.j1, fletchref21_made.j2, h']; done)

/-- What the reference says of a line that has words. -/
def Told (o : Option Spec.St) (r : Option (Int × Int × Int × Int × Int × Bool × Bool)) : Prop :=
  match o with
  | some s => r = some (s.k, s.n, s.o, s.i, s.j, true, true)
  | none => ∃ a b c d e, r = some (a, b, c, d, e, true, false)

theorem kind_loop (ws : List ByteArray) (w : ByteArray) (hw0 : 0 < ws.length) (hw : rdOf ByteArray.empty ws 0 = w) (xs : List Int) : ∀ (n kk k : Nat), kk + n = 12 → 1 ≤ kk → n + 10 < k →
    Told (if Spec.idxFrom w.data.toList ((kk : Int) - 1) (Spec.names.drop (kk - 1)) + 1 = 0 ∨ xs.length ≠ (Spec.fieldsOf (Spec.idxFrom w.data.toList ((kk : Int) - 1) (Spec.names.drop (kk - 1)) + 1)).length then none
        else some (fillN (Spec.fieldsOf (Spec.idxFrom w.data.toList ((kk : Int) - 1) (Spec.names.drop (kk - 1)) + 1)) xs ⟨Spec.idxFrom w.data.toList ((kk : Int) - 1) (Spec.names.drop (kk - 1)) + 1, 0, 0, 0, 0⟩))
      (fletchref21_Line.l1 k ws xs (kk : Int)) := by
  intro n
  induction n with
  | zero =>
    intro kk k hj h1 hk
    obtain ⟨k, rfl⟩ : ∃ k', k = k' + 1 := ⟨k - 1, by omega⟩
    obtain rfl : kk = 12 := by omega
    have e : fletchref21_Line.l1 (k + 1) ws xs ((12 : Nat) : Int) = some (0, 0, 0, 0, 0, true, false) := by
      simp only [fletchref21_Line.l1]
      rw [if_neg (by omega)]
    have e2 : Spec.idxFrom w.data.toList (((12 : Nat) : Int) - 1) (Spec.names.drop (12 - 1)) + 1 = 0 := rfl
    rw [e, if_pos (Or.inl e2)]
    exact ⟨0, 0, 0, 0, 0, rfl⟩
  | succ n ih =>
    intro kk k hj h1 hk
    obtain ⟨k, rfl⟩ : ∃ k', k = k' + 1 := ⟨k - 1, by omega⟩
    have hin : ¬ ((kk : Int) < 1 ∨ 11 < (kk : Int)) := by omega
    obtain ⟨b, hb1, hb2, hb3, hb4⟩ := name_in hin
    have e : fletchref21_Line.l1 (k + 1) ws xs (kk : Int) = if Spec.nameOf (kk : Int) = w.data.toList then ((fletchref21_made.f k (kk : Int) xs).bind fun bt211 => (some (bt211.1, bt211.2.1, bt211.2.2.1, bt211.2.2.2.1, bt211.2.2.2.2.1, true, bt211.2.2.2.2.2))) else fletchref21_Line.l1 k ws xs ((kk : Int) + 1) := by
      simp only [fletchref21_Line.l1]
      rw [if_pos (by omega), hb1, Option.bind_some, if_pos (by omega), hw, toList_data, toList_data, hb2, wrap_id _ (by omega) (by omega)]
    have hdr : Spec.names.drop (kk - 1) = Spec.nameOf (kk : Int) :: Spec.names.drop kk := by
      have hl : kk - 1 < Spec.names.length := by show kk - 1 < 11; omega
      rw [List.drop_eq_getElem_cons hl, show kk - 1 + 1 = kk from by omega]
      unfold Spec.nameOf
      rw [show ((kk : Int) - 1).toNat = kk - 1 from by omega]
      simp [List.getD_eq_getElem?_getD, hl]
    obtain ⟨q, hq⟩ : ∃ q, Spec.idxFrom w.data.toList ((kk : Int) - 1) (Spec.nameOf (kk : Int) :: Spec.names.drop kk) + 1 = q := ⟨_, rfl⟩
    rw [e, hdr, hq]
    simp only [Spec.idxFrom] at hq
    by_cases he : Spec.nameOf (kk : Int) = w.data.toList
    · rw [if_pos he.symm, show (kk : Int) - 1 + 1 = (kk : Int) from by omega] at hq
      subst hq
      rw [if_pos he]
      obtain ⟨k, rfl⟩ : ∃ k', k = k' + 4 := ⟨k - 4, by omega⟩
      by_cases hl : xs.length = (Spec.fieldsOf (kk : Int)).length
      · rw [if_neg (by simp [hl]; omega), made_ok _ hin xs hl]
        rfl
      · rw [if_pos (Or.inr hl)]
        obtain ⟨a, b, c, d, e, hm⟩ := made_bad _ hin xs hl k
        rw [hm]
        exact ⟨a, b, c, d, e, rfl⟩
    · rw [if_neg (fun h => he h.symm)] at hq
      rw [if_neg he, ← hq]
      have := ih (kk + 1) k (by omega) (by omega) (by omega)
      rw [show ((kk + 1 : Nat) : Int) - 1 = (kk : Int) - 1 + 1 from by omega, show kk + 1 - 1 = kk from by omega, show ((kk + 1 : Nat) : Int) = (kk : Int) + 1 from by omega] at this
      exact this

theorem args_loop (ws ys : List ByteArray) (hsz : ∀ y ∈ ys, y.size ≤ 1000000) (hyl : ys.length ≤ 1000000) : ∀ (n j k : Nat) (xs : List Int), j + n = ys.length → n + 60 < k → xs.length = j →
    fletchref21_Line.l0 k ws xs ys (ys.length : Int) (j : Int) = match allNums (dat (ys.drop j)) with | none => some (0, 0, 0, 0, 0, true, false) | some zs => fletchref21_Line.l1 (k - n - 1) ws (xs ++ zs) 1 := by
  intro n
  induction n with
  | zero =>
    intro j k xs hj hk hx
    obtain ⟨k, rfl⟩ : ∃ k', k = k' + 1 := ⟨k - 1, by omega⟩
    simp only [fletchref21_Line.l0]
    rw [if_neg (by omega), List.drop_of_length_le (by omega)]
    simp [dat, allNums]
  | succ n ih =>
    intro j k xs hj hk hx
    obtain ⟨k, rfl⟩ : ∃ k', k = k' + 1 := ⟨k - 1, by omega⟩
    simp only [fletchref21_Line.l0]
    have hjl : j < ys.length := by omega
    obtain ⟨y, hy⟩ : ∃ y, ys[j] = y := ⟨_, rfl⟩
    have hr : rdOf ByteArray.empty ys (j : Int) = y := by simp [rdOf, List.getD_eq_getElem?_getD, hjl, hy]
    rw [if_pos (by omega), if_pos (by omega), if_pos (by omega), hr, number_ref y k (by omega) (hsz y (by rw [← hy]; exact List.getElem_mem hjl)), Option.bind_some, List.drop_eq_getElem_cons hjl, hy]
    show _ = match allNums (y.data.toList :: dat (ys.drop (j + 1))) with | none => _ | some zs => _
    simp only [allNums]
    unfold numA
    cases hn : Spec.numOf y.data.toList with
    | none => simp
    | some x =>
      simp only [if_true]
      rw [if_pos (by omega), wrap_id _ (by omega) (by omega)]
      have := ih (j + 1) k (xs ++ [x]) (by omega) (by omega) (by simp; omega)
      rw [show ((j + 1 : Nat) : Int) = (j : Int) + 1 from by omega] at this
      rw [this]
      cases allNums (dat (ys.drop (j + 1))) with
      | none => rfl
      | some zs =>
        simp only [Option.map_some]
        rw [show k + 1 - (n + 1) - 1 = k - n - 1 from by omega, List.append_assoc]
        rfl

theorem line_ref (a0 : ByteArray) (hs : a0.size ≤ 65536) (K : Nat) (hK : 200000 ≤ K) :
    (Spec.wordsOf a0.data.toList = [] ∧ fletchref21_Line.f K a0 = some (0, 0, 0, 0, 0, false, true)) ∨
    (Spec.wordsOf a0.data.toList ≠ [] ∧ Told (Spec.lineOf (Spec.wordsOf a0.data.toList)) (fletchref21_Line.f K a0)) := by
  have hlen : a0.data.toList.length = a0.size := Array.length_toList
  obtain ⟨ws, h1, h2⟩ := words_ref a0 (by omega) K (by omega)
  have hmem : ∀ y ∈ ws, y.size ≤ 65536 := by
    intro y hy
    have hm : y.data.toList ∈ Spec.wordsOf a0.data.toList := by rw [← h2]; exact List.mem_map_of_mem (f := fun s : ByteArray => s.data.toList) hy
    have := splitB_mem 32 _ _ (List.mem_filter.1 hm).1
    have e : y.data.toList.length = y.size := Array.length_toList
    omega
  have hwl : ws.length ≤ 65537 := by
    have e1 : (dat ws).length = ws.length := by simp [dat]
    rw [h2] at e1
    have e2 := List.length_filter_le (fun w : List UInt8 => decide (w ≠ [])) (Spec.splitB 32 a0.data.toList)
    have e3 := splitB_len 32 a0.data.toList
    unfold Spec.wordsOf at e1
    omega
  unfold fletchref21_Line.f
  rw [h1, Option.bind_some]
  cases ws with
  | nil =>
    refine .inl ⟨h2.symm, ?_⟩
    rw [if_pos (by simp)]
  | cons w bs =>
    refine .inr ⟨by rw [← h2]; simp [dat], ?_⟩
    rw [if_neg (by simp; omega), if_pos (by simp; omega), Option.bind_some]
    have hda : dat (w :: bs) = w.data.toList :: dat bs := rfl
    rw [← h2, hda]
    simp only [Spec.lineOf, List.drop_one, List.tail_cons]
    have hal : bs.length ≤ 65536 := by simp at hwl; omega
    have ha := args_loop (w :: bs) bs (fun y hy => by have := hmem y (List.mem_cons_of_mem _ hy); omega) (by omega) bs.length 0 K [] (by omega) (by omega) rfl
    rw [show ((0 : Nat) : Int) = 0 from rfl, List.drop_zero] at ha
    rw [ha]
    have hdl : (dat bs).length = bs.length := by simp [dat]
    cases hn : allNums (dat bs) with
    | none =>
      by_cases hc : Spec.kindOf w.data.toList = 0 ∨ (dat bs).length ≠ (Spec.fieldsOf (Spec.kindOf w.data.toList)).length
      · rw [if_pos hc]; exact ⟨0, 0, 0, 0, 0, rfl⟩
      · rw [if_neg hc, fill_none _ _ _ (Classical.byContradiction fun h => hc (Or.inr h)) hn]
        exact ⟨0, 0, 0, 0, 0, rfl⟩
    | some xs =>
      have hxl := allNums_len _ _ hn
      have hk := kind_loop (w :: bs) w (by simp) rfl ([] ++ xs) 11 1 (K - bs.length - 1) rfl (by omega) (by omega)
      rw [List.nil_append] at hk
      have hk2 : Told (if Spec.kindOf w.data.toList = 0 ∨ xs.length ≠ (Spec.fieldsOf (Spec.kindOf w.data.toList)).length then none else some (fillN (Spec.fieldsOf (Spec.kindOf w.data.toList)) xs ⟨Spec.kindOf w.data.toList, 0, 0, 0, 0⟩)) (fletchref21_Line.l1 (K - bs.length - 1) (w :: bs) xs 1) := hk
      simp only [List.nil_append]
      rw [hxl] at hk2
      by_cases hc : Spec.kindOf w.data.toList = 0 ∨ (dat bs).length ≠ (Spec.fieldsOf (Spec.kindOf w.data.toList)).length
      · rw [if_pos hc] at hk2 ⊢
        exact hk2
      · rw [if_neg hc] at hk2 ⊢
        rw [fill_some _ _ _ _ (Classical.byContradiction fun h => hc (Or.inr h)) hn]
        exact hk2

/-! ### Texts -/
theorem parse_loop (x0 : ByteArray) (hs : x0.size ≤ 65536) : ∀ (n i from_ nn k : Nat) (acc : List Spec.St), i + n = x0.size + 1 → from_ ≤ i → 2 * n + 210000 < k → acc.length ≤ 4096 → nn ≤ i →
    ((10 : UInt8) ∉ (x0.data.toList.drop from_).take (i - from_)) → (n = 0 → from_ = i) →
    fletchref21_Parse.l0 k x0 (acc.map toS) ((nn : Int) + 1) (from_ : Int) (i : Int) = some (ansP (if n = 0 then (acc, 0, 0) else Spec.parseFrom nn acc (Spec.splitB 10 (x0.data.toList.drop from_)))) := by
  have hlen : x0.data.toList.length = x0.size := Array.length_toList
  intro n
  induction n with
  | zero =>
    intro i from_ nn k acc hi hf hk hacc hnn hno hz
    obtain ⟨k, rfl⟩ : ∃ k', k = k' + 1 := ⟨k - 1, by omega⟩
    simp only [fletchref21_Parse.l0]
    rw [if_neg (by omega)]
    simp only [if_true]
    rfl
  | succ n ih =>
    intro i from_ nn k acc hi hf hk hacc hnn hno hz
    obtain ⟨k, rfl⟩ : ∃ k', k = k' + 1 + 1 := ⟨k - 2, by omega⟩
    rw [if_neg (by omega)]
    simp only [fletchref21_Parse.l0]
    rw [if_pos (by omega)]
    have ei : ((i + 1 : Nat) : Int) = (i : Int) + 1 := by omega
    -- a line's end
    have ends : (i < x0.size → x0.data.toList[i]? = some 10) → fletchref21_Parse.j1 (k + 1) x0 (acc.map toS) ((nn : Int) + 1) (from_ : Int) (i : Int) false = some (ansP (Spec.parseFrom nn acc (Spec.splitB 10 (x0.data.toList.drop from_)))) := by
      intro hend
      simp only [fletchref21_Parse.j1]
      rw [if_neg (by simp), if_pos (by omega), if_pos (by omega), if_pos (by omega), wrap_id _ (by omega) (by omega), wrap_id _ (by omega) (by omega)]
      obtain ⟨seg, hseg⟩ : ∃ seg, x0.extract ((from_ : Int)).toNat ((i : Int)).toNat = seg := ⟨_, rfl⟩
      have hsd : seg.data.toList = (x0.data.toList.drop from_).take (i - from_) := by
        rw [← hseg, Lib.extract_data, show ((from_ : Int)).toNat = from_ from by omega, show ((i : Int)).toNat = i from by omega]
      have hsn : (10 : UInt8) ∉ seg.data.toList := by rw [hsd]; exact hno
      have hss : seg.size ≤ 65536 := by
        have e1 : seg.data.toList.length = seg.size := Array.length_toList
        rw [hsd, List.length_take, List.length_drop] at e1
        omega
      rw [hseg]
      -- the lines from here on
      have hsplit : ∃ L, Spec.splitB 10 (x0.data.toList.drop from_) = seg.data.toList :: L ∧ (n = 0 → L = []) ∧ (n ≠ 0 → L = Spec.splitB 10 (x0.data.toList.drop (i + 1))) := by
        by_cases hlt : i < x0.size
        · have h10 := hend hlt
          have hd : x0.data.toList.drop from_ = seg.data.toList ++ 10 :: x0.data.toList.drop (i + 1) := by
            rw [hsd]
            have hil : i < x0.data.toList.length := by omega
            have e1 : (x0.data.toList.drop from_).drop (i - from_) = 10 :: x0.data.toList.drop (i + 1) := by
              rw [List.drop_drop, show from_ + (i - from_) = i from by omega, List.drop_eq_getElem_cons hil]
              rw [List.getElem?_eq_getElem hil] at h10
              rw [Option.some.inj h10]
            rw [← e1, List.take_append_drop]
          refine ⟨_, by rw [hd, splitB_join, splitB_cons_none 10 _ hsn]; rfl, fun h => by omega, fun _ => rfl⟩
        · have hi2 : i = x0.size := by omega
          refine ⟨[], ?_, fun _ => rfl, fun h => by omega⟩
          have : seg.data.toList = x0.data.toList.drop from_ := by rw [hsd, List.take_of_length_le (by rw [List.length_drop]; omega)]
          rw [← this, splitB_cons_none 10 _ hsn]
      obtain ⟨L, hL, hL0, hL1⟩ := hsplit
      rw [hL]
      simp only [Spec.parseFrom]
      -- go on behind the line
      have goes : ∀ acc' : List Spec.St, acc'.length ≤ 4096 → fletchref21_Parse.l0 k x0 (acc'.map toS) ((nn : Int) + 1 + 1) ((i : Int) + 1) ((i : Int) + 1) = some (ansP (Spec.parseFrom (nn + 1) acc' L)) := by
        intro acc' ha'
        have := ih (i + 1) (i + 1) (nn + 1) k acc' (by omega) (by omega) (by omega) ha' (by omega) (by simp) (fun _ => rfl)
        rw [ei, show ((nn + 1 : Nat) : Int) + 1 = (nn : Int) + 1 + 1 from by omega] at this
        rw [this]
        by_cases h0 : n = 0
        · rw [if_pos h0, hL0 h0]; rfl
        · rw [if_neg h0, hL1 h0]
      rcases line_ref seg hss k (by omega) with ⟨hw, hf1⟩ | ⟨hw, ht⟩
      · rw [if_pos hw, hf1, Option.bind_some]
        simp only [if_true]
        rw [if_neg (by simp)]
        exact goes acc hacc
      · rw [if_neg hw]
        cases hln : Spec.lineOf (Spec.wordsOf seg.data.toList) with
        | none =>
          rw [hln] at ht
          obtain ⟨a, b, c, d, e, hm⟩ := ht
          rw [hm, Option.bind_some, if_neg (by simp)]
          rfl
        | some s =>
          rw [hln] at ht
          rw [show fletchref21_Line.f k seg = some (s.k, s.n, s.o, s.i, s.j, true, true) from ht, Option.bind_some]
          simp only [if_true]
          by_cases h4 : acc.length = 4096
          · rw [if_pos (by simp; omega), if_pos h4]; rfl
          · rw [if_neg (by simp; omega), if_neg h4, if_pos (by simp; omega)]
            have e : acc.map toS ++ [(⟨s.k, s.n, s.o, s.i, s.j⟩ : S36)] = (acc ++ [s]).map toS := by simp [toS]
            rw [e]
            exact goes (acc ++ [s]) (by simp; omega)
    by_cases hlt : i < x0.size
    · rw [if_pos (by omega), if_pos (by omega), bt_byte x0 i hlt]
      have hil : i < x0.data.toList.length := by omega
      obtain ⟨c, hc⟩ : ∃ c, x0.data.toList[i] = c := ⟨_, rfl⟩
      rw [hc]
      by_cases h10 : c = 10
      · rw [h10, show (((10 : UInt8).toNat : Int) != 10) = false from rfl]
        exact ends (fun _ => by rw [List.getElem?_eq_getElem hil, hc, h10])
      · have hb : ((c.toNat : Int) != 10) = true := by
          rw [bne_iff_ne]
          intro e
          exact h10 (UInt8.toNat_inj.1 (by show c.toNat = 10; omega))
        rw [hb]
        simp only [fletchref21_Parse.j1, if_true]
        rw [wrap_id _ (by omega) (by omega)]
        have := ih (i + 1) from_ nn k acc (by omega) (by omega) (by omega) hacc (by omega) (by
          rw [show i + 1 - from_ = (i - from_) + 1 from by omega, List.take_add_one]
          simp only [List.mem_append, not_or]
          refine ⟨hno, ?_⟩
          rw [List.getElem?_drop, show from_ + (i - from_) = i from by omega, List.getElem?_eq_getElem hil, hc]
          simpa using fun e => h10 e.symm) (fun h => by omega)
        rw [ei] at this
        rw [this, if_neg (by omega)]
    · rw [if_neg (by omega)]
      exact ends (fun h => absurd h hlt)

theorem parse_ref (a0 : ByteArray) (K : Nat) (hK : 400000 ≤ K) : fletchref21_Parse.f K a0 = some (ansP (Spec.parse a0.data.toList)) := by
  have hlen : a0.data.toList.length = a0.size := Array.length_toList
  unfold fletchref21_Parse.f Spec.parse
  by_cases h : (a0.size : Int) > 65536
  · rw [if_pos h, if_pos (by omega)]; rfl
  · rw [if_neg h, if_neg (by omega)]
    have := parse_loop a0 (by omega) (a0.size + 1) 0 0 0 K [] (by omega) (by omega) (by omega) (by simp) (by omega) (by simp) (fun h => by omega)
    rw [if_neg (by omega), List.drop_zero] at this
    exact this

theorem pureParses (a0 : ByteArray) : ∃ k, fletchlaw21_ScriptParses.f k a0 = some true := by
  refine ⟨400000, ?_⟩
  unfold fletchlaw21_ScriptParses.f
  rw [wakes_true _ (by decide), Option.bind_some, if_pos rfl, parse_ref a0 _ (by omega)]
  unfold script_Parse.f
  rw [Option.bind_some, Option.bind_some]
  simp only [if_true]
  have hp := parse_len a0.data.toList
  have hp2 : (ansP (Spec.parse a0.data.toList)).1.length ≤ 4096 := by simpa [ansP] using hp
  rw [same_refl _ (by omega) _ (by omega)]
  rfl
end Go.Proofs.YtpeokbbidipdkaaDoor.Q
