/-
  A text that was told reads back as the steps that it tells; what a text reads as can be told.
-/
import Derived.Test.YtpeokbbidipdkaaDoorPureBase
namespace Go.Proofs.YtpeokbbidipdkaaDoor.Q
open Go Go.RowKit Go.Proofs.YtpeokbbidipdkaaDoorW.PrintWords Go.Proofs.YtpeokbbidipdkaaDoorW.PrintLast Go.Proofs.YtpeokbbidipdkaaDoorW.PrintMore
set_option linter.unusedVariables false
set_option linter.unusedSimpArgs false

def numsText : List Int → Option (List UInt8)
  | [] => some []
  | x :: r => if Spec.wide x then none else (numsText r).map fun t => 32 :: Lib.itoa x ++ t
/-- A step's numbers, what its fields alone say, what is left without them. -/
def nums (s : Spec.St) : List Int := (Spec.fieldsOf s.k).map (Spec.get s)
def only (s : Spec.St) : Spec.St := (Spec.fieldsOf s.k).foldl (fun r f => Spec.put r f (Spec.get s f)) ⟨s.k, 0, 0, 0, 0⟩
def less (s : Spec.St) : Spec.St := (Spec.fieldsOf s.k).foldl (fun r f => Spec.put r f 0) { s with k := 0 }

theorem only_less (s : Spec.St) (h : ¬ (s.k < 1 ∨ 11 < s.k)) : (only s = s ↔ less s = Spec.zeroSt) ∧ (only s).k = s.k := by
  obtain ⟨k, n, o, i, j⟩ := s
  simp only at h ⊢
  rcases kinds h with rfl | rfl | rfl | rfl | rfl | rfl | rfl | rfl | rfl | rfl | rfl <;>
    simp [only, less, Spec.fieldsOf, Spec.get, Spec.put, Spec.zeroSt, eq_comm]
theorem fields_nums (s : Spec.St) (h : ¬ (s.k < 1 ∨ 11 < s.k)) : Spec.fieldsText (Spec.fieldsOf s.k) { s with k := 0 } = (numsText (nums s)).map fun t => (t, less s) := by
  obtain ⟨k, n, o, i, j⟩ := s
  simp only at h ⊢
  rcases kinds h with rfl | rfl | rfl | rfl | rfl | rfl | rfl | rfl | rfl | rfl | rfl <;>
    simp only [Spec.fieldsText, numsText, nums, less, Spec.fieldsOf, Spec.get, Spec.put, List.map_cons, List.map_nil, List.foldl_cons, List.foldl_nil, if_true, true_or, or_true, or_self, if_false, Int.reduceEq, or_false, false_or] <;>
    by_cases h1 : Spec.wide n <;> by_cases h2 : Spec.wide o <;> by_cases h3 : Spec.wide i <;> by_cases h4 : Spec.wide j <;> simp [h1, h2, h3, h4]

/-! ### Numerals -/
theorem dec_big {u : Nat} (h : ¬ u < 10) : Lib.decDigits u = Lib.decDigits (u / 10) ++ [UInt8.ofNat (48 + u % 10)] := by rw [Lib.decDigits, dif_neg h]
theorem digit_nat {d : Nat} (h : d < 10) : (UInt8.ofNat (48 + d)).toNat = 48 + d := by
  rw [UInt8.toNat_ofNat']; omega
theorem dec_digs : ∀ (u : Nat), (Lib.decDigits u).all Spec.isDig = true := by
  intro u
  induction u using Nat.strongRecOn with
  | _ u ih =>
    by_cases h : u < 10
    · rw [Lib.decDigits_one h]; simp [Spec.isDig, digit_nat h]; omega
    · rw [dec_big h, List.all_append, ih (u / 10) (by omega)]; have := digit_nat (show u % 10 < 10 by omega); simp [Spec.isDig, this]; omega
theorem dec_val : ∀ (u : Nat), Spec.valOf 0 (Lib.decDigits u) = u := by
  intro u
  induction u using Nat.strongRecOn with
  | _ u ih =>
    by_cases h : u < 10
    · rw [Lib.decDigits_one h, Spec.valOf_cons, Spec.valOf_nil, digit_nat h]; omega
    · rw [dec_big h, Spec.valOf_append, ih (u / 10) (by omega), Spec.valOf_cons, Spec.valOf_nil, digit_nat (show u % 10 < 10 by omega)]; omega
theorem dec_len : ∀ (k u : Nat), u < 10 ^ (k + 1) → (Lib.decDigits u).length ≤ k + 1
  | 0, u, h => by rw [Lib.decDigits_one (by simpa using h)]; simp
  | k + 1, u, h => by
    by_cases h10 : u < 10
    · rw [Lib.decDigits_one h10]; simp
    · have := dec_len k (u / 10) (by rw [Nat.pow_succ] at h; omega)
      rw [dec_big h10, List.length_append]; simp; omega
theorem dec_ne (u : Nat) : Lib.decDigits u ≠ [] := by
  by_cases h : u < 10
  · rw [Lib.decDigits_one h]; simp
  · rw [dec_big h]; simp
theorem dec_head : ∀ (u : Nat), 0 < u → (Lib.decDigits u).head? ≠ some 48 := by
  intro u
  induction u using Nat.strongRecOn with
  | _ u ih =>
    intro h0
    by_cases h : u < 10
    · rw [Lib.decDigits_one h]
      intro e
      have e1 : UInt8.ofNat (48 + u) = 48 := by simpa using e
      have e2 := digit_nat h
      rw [e1] at e2
      have : (48 : UInt8).toNat = 48 := rfl
      omega
    · have ih' := ih (u / 10) (by omega) (by omega)
      rw [dec_big h]
      cases hd : Lib.decDigits (u / 10) with
      | nil => exact absurd hd (dec_ne _)
      | cons c r => rw [hd] at ih'; simpa using ih'
theorem dig_not {l : List UInt8} (h : l.all Spec.isDig = true) (c : UInt8) (hc : c.toNat < 48) : c ∉ l := by
  intro hm
  have := List.all_eq_true.1 h c hm
  simp [Spec.isDig] at this
  omega
theorem itoa_ne (x : Int) : Lib.itoa x ≠ [] := by
  unfold Lib.itoa; split
  · simp
  · exact dec_ne _
theorem itoa_not (x : Int) (c : UInt8) (hc : c.toNat < 45) : c ∉ Lib.itoa x := by
  unfold Lib.itoa
  split
  · rw [List.mem_cons, not_or]
    refine ⟨fun e => ?_, dig_not (dec_digs _) c (by omega)⟩
    rw [e] at hc
    exact absurd hc (by decide)
  · exact dig_not (dec_digs _) c (by omega)
theorem num_itoa (x : Int) (h : ¬ Spec.wide x) : Spec.numOf (Lib.itoa x) = some x := by
  unfold Spec.wide at h
  have p18 : (10 : Nat) ^ (17 + 1) = 1000000000000000000 := by decide
  by_cases hx : x < 0
  · have e : Lib.itoa x = 45 :: Lib.decDigits x.natAbs := by unfold Lib.itoa; rw [if_pos hx]
    have hd : Spec.digits (Lib.itoa x) = Lib.decDigits x.natAbs := by rw [e]; simp [Spec.digits]
    have hn : Spec.isNum (Lib.itoa x) = true := by
      unfold Spec.isNum
      rw [hd]
      simp only [Bool.and_eq_true, Bool.or_eq_true, decide_eq_true_eq]
      exact ⟨⟨⟨dec_ne _, dec_len 17 _ (by omega)⟩, dec_digs _⟩, .inl (dec_head _ (by omega))⟩
    unfold Spec.numOf
    rw [if_pos hn]
    unfold Spec.numVal
    rw [hd, dec_val, if_pos (by rw [e]; rfl)]
    congr 1; omega
  · have e : Lib.itoa x = Lib.decDigits x.toNat := by unfold Lib.itoa; rw [if_neg hx]
    have h45 : ¬ (Lib.itoa x).head? = some 45 := by
      intro hh
      have : (45 : UInt8) ∈ Lib.itoa x := List.mem_of_mem_head? hh
      rw [e] at this
      exact dig_not (dec_digs _) 45 (by decide) this
    have hd : Spec.digits (Lib.itoa x) = Lib.decDigits x.toNat := by unfold Spec.digits; rw [if_neg h45, e]
    have hn : Spec.isNum (Lib.itoa x) = true := by
      unfold Spec.isNum
      rw [hd]
      simp only [Bool.and_eq_true, Bool.or_eq_true, decide_eq_true_eq]
      refine ⟨⟨⟨dec_ne _, dec_len 17 _ (by omega)⟩, dec_digs _⟩, ?_⟩
      by_cases h0 : x.toNat = 0
      · right; rw [e, h0, Lib.decDigits_one (by decide)]; rfl
      · left; exact dec_head _ (by omega)
    unfold Spec.numOf
    rw [if_pos hn]
    unfold Spec.numVal
    rw [hd, dec_val, if_neg h45]
    congr 1; omega
theorem num_narrow {l : List UInt8} {x : Int} (h : Spec.numOf l = some x) : ¬ Spec.wide x := by
  unfold Spec.numOf at h
  by_cases hn : Spec.isNum l = true
  · rw [if_pos hn] at h
    obtain rfl := Option.some.inj h
    obtain ⟨_, h1, h2, _⟩ := Spec.parts hn
    have hb := Spec.valOf_lt (Spec.digits l) 0 h2
    have h4 := Spec.pow18 h1
    unfold Spec.wide Spec.numVal
    split <;> omega
  · rw [if_neg hn] at h; cases h

/-! ### A line -/
def lineText (s : Spec.St) : Option (List UInt8) :=
  if s.k < 1 ∨ 11 < s.k then none else if less s = Spec.zeroSt then (numsText (nums s)).map (Spec.nameOf s.k ++ ·) else none
theorem textOf_line (s : Spec.St) (r : List Spec.St) : Spec.textOf (s :: r) = (lineText s).bind fun b => (Spec.textOf r).map fun u => b ++ 10 :: u := by
  unfold lineText
  by_cases hk : s.k < 1 ∨ 11 < s.k
  · rw [Spec.textOf_bad _ _ hk, if_pos hk]; rfl
  · rw [Spec.textOf_good _ _ hk, if_neg hk, fields_nums _ hk]
    cases numsText (nums s) with
    | none => split <;> rfl
    | some c =>
      simp only [Option.map_some, Spec.endText]
      by_cases hz : less s = Spec.zeroSt
      · rw [if_pos hz, if_pos hz]
        cases Spec.textOf r <;> simp
      · rw [if_neg hz, if_neg hz]; rfl

theorem split_nums : ∀ (xs : List Int) (c w : List UInt8), numsText xs = some c → (32 : UInt8) ∉ w → Spec.splitB 32 (w ++ c) = w :: xs.map Lib.itoa
  | [], c, w, h, hw => by
    simp [numsText] at h; subst h
    rw [List.append_nil, splitB_cons_none 32 w hw]; rfl
  | x :: r, c, w, h, hw => by
    simp only [numsText] at h
    by_cases hx : Spec.wide x
    · rw [if_pos hx] at h; cases h
    rw [if_neg hx] at h
    obtain ⟨t, ht, rfl⟩ := Option.map_eq_some_iff.1 h
    rw [List.cons_append, splitB_join, splitB_cons_none 32 w hw, split_nums r t _ ht (itoa_not x 32 (by decide))]
    rfl
theorem nums_narrow : ∀ (xs : List Int) (c : List UInt8), numsText xs = some c → ∀ x ∈ xs, ¬ Spec.wide x
  | [], _, _, x, hx => by cases hx
  | y :: r, c, h, x, hx => by
    simp only [numsText] at h
    by_cases hy : Spec.wide y
    · rw [if_pos hy] at h; cases h
    rw [if_neg hy] at h
    obtain ⟨t, ht, rfl⟩ := Option.map_eq_some_iff.1 h
    rcases List.mem_cons.1 hx with rfl | hx
    · exact hy
    · exact nums_narrow r t ht x hx
theorem fill_back (s : Spec.St) : ∀ (fs : List Int) (r : Spec.St), (∀ f ∈ fs, ¬ Spec.wide (Spec.get s f)) → Spec.fill fs ((fs.map (Spec.get s)).map Lib.itoa) r = some (fs.foldl (fun r f => Spec.put r f (Spec.get s f)) r)
  | [], r, _ => rfl
  | f :: fs, r, h => by
    simp only [List.map_cons, Spec.fill, num_itoa _ (h f (by simp)), List.foldl_cons]
    exact fill_back s fs _ (fun g hg => h g (List.mem_cons_of_mem _ hg))
theorem name_kind {k : Int} (h : ¬ (k < 1 ∨ 11 < k)) : Spec.kindOf (Spec.nameOf k) = k ∧ Spec.nameOf k ≠ [] ∧ (32 : UInt8) ∉ Spec.nameOf k ∧ (10 : UInt8) ∉ Spec.nameOf k := by
  rcases kinds h with rfl | rfl | rfl | rfl | rfl | rfl | rfl | rfl | rfl | rfl | rfl <;> decide
theorem nums_no10 : ∀ (xs : List Int) (c : List UInt8), numsText xs = some c → (10 : UInt8) ∉ c
  | [], c, h => by simp [numsText] at h; subst h; simp
  | x :: r, c, h => by
    simp only [numsText] at h
    by_cases hx : Spec.wide x
    · rw [if_pos hx] at h; cases h
    rw [if_neg hx] at h
    obtain ⟨t, ht, rfl⟩ := Option.map_eq_some_iff.1 h
    simp only [List.cons_append, List.mem_cons, List.mem_append, not_or]
    exact ⟨by decide, itoa_not x 10 (by decide), nums_no10 r t ht⟩

theorem line_back {s : Spec.St} {b : List UInt8} (h : lineText s = some b) : (10 : UInt8) ∉ b ∧ Spec.wordsOf b ≠ [] ∧ Spec.lineOf (Spec.wordsOf b) = some s := by
  unfold lineText at h
  by_cases hk : s.k < 1 ∨ 11 < s.k
  · rw [if_pos hk] at h; cases h
  rw [if_neg hk] at h
  by_cases hz : less s = Spec.zeroSt
  case neg => rw [if_neg hz] at h; cases h
  rw [if_pos hz] at h
  obtain ⟨c, hc, rfl⟩ := Option.map_eq_some_iff.1 h
  obtain ⟨k1, k2, k3, k4⟩ := name_kind hk
  have hw : Spec.wordsOf (Spec.nameOf s.k ++ c) = Spec.nameOf s.k :: (nums s).map Lib.itoa := by
    unfold Spec.wordsOf
    rw [split_nums _ _ _ hc k3, List.filter_eq_self]
    intro w hm
    rcases List.mem_cons.1 hm with rfl | hm
    · simpa using k2
    · obtain ⟨x, _, rfl⟩ := List.mem_map.1 hm
      simpa using itoa_ne x
  refine ⟨by rw [List.mem_append, not_or]; exact ⟨k4, nums_no10 _ _ hc⟩, by rw [hw]; simp, ?_⟩
  rw [hw]
  simp only [Spec.lineOf]
  rw [k1, if_neg (by simp [nums]; omega)]
  have hn := nums_narrow _ _ hc
  have := fill_back s (Spec.fieldsOf s.k) ⟨s.k, 0, 0, 0, 0⟩ (fun f hf => hn _ (List.mem_map_of_mem (f := Spec.get s) hf))
  unfold nums
  rw [this]
  exact congrArg some (((only_less s hk).1).2 hz)

theorem round_from : ∀ (l : List Spec.St) (t : List UInt8) (n : Nat) (acc : List Spec.St), Spec.textOf l = some t → acc.length + l.length ≤ 4096 → Spec.parseFrom n acc (Spec.splitB 10 t) = (acc ++ l, 0, 0)
  | [], t, n, acc, h, _ => by
    simp [Spec.textOf] at h; subst h
    rw [List.append_nil]; rfl
  | s :: r, t, n, acc, h, hl => by
    rw [textOf_line] at h
    obtain ⟨b, hb, h⟩ := Option.bind_eq_some_iff.1 h
    obtain ⟨u, hu, rfl⟩ := Option.map_eq_some_iff.1 h
    obtain ⟨b1, b2, b3⟩ := line_back hb
    rw [splitB_join, splitB_cons_none 10 b b1]
    simp only [List.cons_append, List.nil_append, Spec.parseFrom]
    simp only [List.length_cons] at hl
    rw [if_neg b2, b3]
    simp only
    rw [if_neg (by omega), round_from r u (n + 1) (acc ++ [s]) hu (by simp; omega)]
    simp
theorem round (l : List Spec.St) (t : List UInt8) (h : Spec.textOf l = some t) (hl : l.length ≤ 4096) (ht : t.length ≤ 65536) : Spec.parse t = (l, 0, 0) := by
  unfold Spec.parse
  rw [if_neg (by omega), round_from l t 0 [] h (by simpa using hl)]
  rfl

/-! ### What a text reads as can be told -/
theorem numsText_some : ∀ (xs : List Int), (∀ x ∈ xs, ¬ Spec.wide x) → ∃ c, numsText xs = some c
  | [], _ => ⟨[], rfl⟩
  | x :: r, h => by
    obtain ⟨c, hc⟩ := numsText_some r (fun y hy => h y (List.mem_cons_of_mem _ hy))
    simp only [numsText]
    rw [if_neg (h x (by simp)), hc]
    exact ⟨_, rfl⟩
theorem fill_nums : ∀ (fs : List Int) (ws : List (List UInt8)) (r s : Spec.St), Spec.fill fs ws r = some s → ws.length = fs.length → ∃ xs : List Int, xs.length = fs.length ∧ (∀ x ∈ xs, ¬ Spec.wide x) ∧ s = (fs.zip xs).foldl (fun r p => Spec.put r p.1 p.2) r
  | [], _, r, s, h, _ => by
    simp [Spec.fill] at h
    exact ⟨[], rfl, by simp, by rw [h]; rfl⟩
  | f :: fs, [], r, s, h, _ => by simp [Spec.fill] at h
  | f :: fs, a :: ws, r, s, h, hl => by
    simp only [Spec.fill] at h
    cases hn : Spec.numOf a with
    | none => rw [hn] at h; cases h
    | some x =>
      rw [hn] at h
      obtain ⟨xs, h1, h2, h3⟩ := fill_nums fs ws _ s h (by simpa using hl)
      refine ⟨x :: xs, by simp [h1], ?_, h3⟩
      intro y hy
      rcases List.mem_cons.1 hy with rfl | hy
      · exact num_narrow hn
      · exact h2 y hy
theorem l1of {xs : List Int} (h : xs.length = 1) : ∃ x, xs = [x] := by match xs, h with | [x], _ => exact ⟨x, rfl⟩
theorem l2of {xs : List Int} (h : xs.length = 2) : ∃ x y, xs = [x, y] := by match xs, h with | [x, y], _ => exact ⟨x, y, rfl⟩
theorem l3of {xs : List Int} (h : xs.length = 3) : ∃ x y z, xs = [x, y, z] := by match xs, h with | [x, y, z], _ => exact ⟨x, y, z, rfl⟩
theorem told_kind (k : Int) (hk : ¬ (k < 1 ∨ 11 < k)) (xs : List Int) (hl : xs.length = (Spec.fieldsOf k).length) (hx : ∀ x ∈ xs, ¬ Spec.wide x) :
    ∃ b, lineText (((Spec.fieldsOf k).zip xs).foldl (fun r p => Spec.put r p.1 p.2) ⟨k, 0, 0, 0, 0⟩) = some b := by
  have key : ∀ s : Spec.St, s.k = k → less s = Spec.zeroSt → nums s = xs → ∃ b, lineText s = some b := by
    intro s h1 h2 h3
    obtain ⟨c, hc⟩ := numsText_some xs hx
    unfold lineText
    rw [if_neg (by rw [h1]; exact hk), if_pos h2, h3, hc]
    exact ⟨_, rfl⟩
  rcases kinds hk with rfl | rfl | rfl | rfl | rfl | rfl | rfl | rfl | rfl | rfl | rfl <;>
    first
    | (obtain ⟨x, y, rfl⟩ := l2of (show xs.length = 2 from hl); exact key _ rfl rfl rfl)
    | (obtain ⟨x, rfl⟩ := l1of (show xs.length = 1 from hl); exact key _ rfl rfl rfl)
    | (obtain ⟨x, y, z, rfl⟩ := l3of (show xs.length = 3 from hl); exact key _ rfl rfl rfl)
theorem line_told {ws : List (List UInt8)} {s : Spec.St} (h : Spec.lineOf ws = some s) : ∃ b, lineText s = some b := by
  cases ws with
  | nil => simp [Spec.lineOf] at h
  | cons w bs =>
    simp only [Spec.lineOf] at h
    by_cases hc : Spec.kindOf w = 0 ∨ bs.length ≠ (Spec.fieldsOf (Spec.kindOf w)).length
    · rw [if_pos hc] at h; cases h
    rw [if_neg hc] at h
    have hk0 : Spec.kindOf w ≠ 0 := fun e => hc (.inl e)
    have hbl : bs.length = (Spec.fieldsOf (Spec.kindOf w)).length := Classical.byContradiction fun e => hc (.inr e)
    have hb := kindOf_bounds w
    obtain ⟨xs, h1, h2, rfl⟩ := fill_nums _ _ _ _ h hbl
    exact told_kind _ (by omega) xs h1 h2
theorem parse_told_from : ∀ (ls : List (List UInt8)) (n : Nat) (acc : List Spec.St), (∀ s ∈ acc, ∃ b, lineText s = some b) → ∀ s ∈ (Spec.parseFrom n acc ls).1, ∃ b, lineText s = some b
  | [], n, acc, h => h
  | l :: ls, n, acc, h => by
    simp only [Spec.parseFrom]
    by_cases hw : Spec.wordsOf l = []
    · rw [if_pos hw]; exact parse_told_from ls (n + 1) acc h
    · rw [if_neg hw]
      cases hln : Spec.lineOf (Spec.wordsOf l) with
      | none => simp
      | some s =>
        simp only
        by_cases h4 : acc.length = 4096
        · rw [if_pos h4]; simp
        · rw [if_neg h4]
          refine parse_told_from ls (n + 1) (acc ++ [s]) ?_
          intro y hy
          rcases List.mem_append.1 hy with hy | hy
          · exact h y hy
          · obtain rfl := List.mem_singleton.1 hy
            exact line_told hln
theorem parse_told (t : List UInt8) : ∃ u, Spec.textOf (Spec.parse t).1 = some u := by
  have h : ∀ s ∈ (Spec.parse t).1, ∃ b, lineText s = some b := by
    unfold Spec.parse
    split
    · simp
    · exact parse_told_from _ 0 [] (by simp)
  generalize (Spec.parse t).1 = l at h
  induction l with
  | nil => exact ⟨[], rfl⟩
  | cons s r ih =>
    obtain ⟨b, hb⟩ := h s (by simp)
    obtain ⟨u, hu⟩ := ih (fun y hy => h y (List.mem_cons_of_mem _ hy))
    rw [textOf_line, hb, hu]
    exact ⟨_, rfl⟩
/-- How a parse ends. -/
theorem parseFrom_end : ∀ (ls : List (List UInt8)) (n : Nat) (acc : List Spec.St), ((Spec.parseFrom n acc ls).2 = (0, 0)) ∨ ((Spec.parseFrom n acc ls).1 = [] ∧ 0 < (Spec.parseFrom n acc ls).2.1 ∧ ((Spec.parseFrom n acc ls).2.2 = 50 ∨ (Spec.parseFrom n acc ls).2.2 = 3))
  | [], n, acc => .inl rfl
  | l :: ls, n, acc => by
    simp only [Spec.parseFrom]
    by_cases hw : Spec.wordsOf l = []
    · rw [if_pos hw]; exact parseFrom_end ls (n + 1) acc
    · rw [if_neg hw]
      cases hln : Spec.lineOf (Spec.wordsOf l) with
      | none => right; simp <;> omega
      | some s =>
        simp only
        by_cases h4 : acc.length = 4096
        · rw [if_pos h4]; right; simp <;> omega
        · rw [if_neg h4]; exact parseFrom_end ls (n + 1) _
theorem parse_end (t : List UInt8) : ((Spec.parse t).2 = (0, 0)) ∨ ((Spec.parse t).1 = [] ∧ ((Spec.parse t).2.2 = 50 ∧ 0 < (Spec.parse t).2.1 ∨ (Spec.parse t).2.2 = 3)) := by
  unfold Spec.parse
  split
  · right; exact ⟨rfl, .inr rfl⟩
  · rcases parseFrom_end (Spec.splitB 10 t) 0 [] with h | ⟨h1, h2, h3⟩
    · exact .inl h
    · right
      refine ⟨h1, ?_⟩
      rcases h3 with h3 | h3
      · exact .inl ⟨h3, h2⟩
      · exact .inr h3

theorem ofS_toS (l : List Spec.St) : (l.map toS).map ofS = l := by
  rw [List.map_map]; exact List.map_id'' (fun s => rfl) l
theorem toS_ofS (l : List S36) : (l.map ofS).map toS = l := by
  rw [List.map_map]; exact List.map_id'' (fun s => rfl) l

end Go.Proofs.YtpeokbbidipdkaaDoor.Q
