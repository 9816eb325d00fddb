/-
  ScriptWords in plain Lean: blanks and blank lines say nothing.
-/
import Derived.Test.YtpeokbbidipdkaaDoorPureRound
import Derived.Test.YtpeokbbidipdkaaDoorQ18
namespace Go.Proofs.YtpeokbbidipdkaaDoor.Q
open Go Go.RowKit Go.Proofs.YtpeokbbidipdkaaDoorW.PrintWords Go.Proofs.YtpeokbbidipdkaaDoorW.PrintLast Go.Proofs.YtpeokbbidipdkaaDoorW.PrintMore
set_option linter.unusedVariables false
set_option linter.unusedSimpArgs false

def joinH (cur : List UInt8) (L : List (List UInt8)) : List (List UInt8) := match L with | [] => [cur] | y :: ys => (cur ++ y) :: ys
def wordsFrom (cur rest : List UInt8) : List (List UInt8) := (joinH cur (Spec.splitB 32 rest)).filter fun w => decide (w ≠ [])
theorem wordsFrom_nil (r : List UInt8) : wordsFrom [] r = Spec.wordsOf r := by
  unfold wordsFrom Spec.wordsOf
  obtain ⟨y, ys, e⟩ := Range.splitB_ne 32 r
  rw [e]; rfl
theorem wordsFrom_end (cur : List UInt8) : wordsFrom cur [] = if cur = [] then [] else [cur] := by
  unfold wordsFrom
  simp only [Spec.splitB, joinH, List.append_nil]
  by_cases h : cur = []
  · rw [if_pos h, h]; rfl
  · rw [if_neg h]; simp [h]
theorem wordsFrom_blank (cur r : List UInt8) : wordsFrom cur (32 :: r) = (if cur = [] then [] else [cur]) ++ wordsFrom [] r := by
  rw [wordsFrom_nil]
  unfold wordsFrom Spec.wordsOf
  simp only [Spec.splitB, if_true, joinH, List.append_nil, List.filter_cons]
  by_cases h : cur = []
  · rw [if_pos h, h]; simp
  · rw [if_neg h]; simp [h]
theorem wordsFrom_char (cur r : List UInt8) (c : UInt8) (h : c ≠ 32) : wordsFrom cur (c :: r) = wordsFrom (cur ++ [c]) r := by
  unfold wordsFrom
  simp only [Spec.splitB]
  rw [if_neg h]
  obtain ⟨y, ys, e⟩ := Range.splitB_ne 32 r
  rw [e]
  simp [joinH]


/-! ### A machine that reads lines of words -/
abbrev Mach := List (List (List UInt8)) × List (List UInt8) × List UInt8
def endW (w : List UInt8) : List (List UInt8) := if w = [] then [] else [w]
def addL (o : List (List (List UInt8))) (L : List (List UInt8)) : List (List (List UInt8)) := if L = [] then o else o ++ [L]
theorem endW_nil : endW [] = [] := rfl
theorem addL_nil (o : List (List (List UInt8))) : addL o [] = o := rfl
theorem addL_f (o : List (List (List UInt8))) (L : List (List UInt8)) (M : List (List (List UInt8))) : addL o L ++ M.filter (fun w => decide (w ≠ [])) = o ++ (L :: M).filter fun w => decide (w ≠ []) := by
  unfold addL
  by_cases h : L = []
  · rw [if_pos h, h]; simp
  · rw [if_neg h, List.filter_cons, if_pos (by simp [h])]; simp
theorem endW_eq (w : List UInt8) : wordsFrom w [] = endW w := wordsFrom_end w
theorem endW_blank (w r : List UInt8) : wordsFrom w (32 :: r) = endW w ++ wordsFrom [] r := wordsFrom_blank w r
def stepM (s : Mach) (c : UInt8) : Mach :=
  if c = 10 then (addL s.1 (s.2.1 ++ endW s.2.2), [], [])
  else if c = 32 then (s.1, s.2.1 ++ endW s.2.2, [])
  else (s.1, s.2.1, s.2.2 ++ [c])
theorem stepM10 (s : Mach) : stepM s 10 = (addL s.1 (s.2.1 ++ endW s.2.2), [], []) := rfl
theorem stepM32 (s : Mach) : stepM s 32 = (s.1, s.2.1 ++ endW s.2.2, []) := rfl
theorem step32 (s : Mach) : stepM (stepM s 32) 32 = stepM s 32 := by rw [stepM32, stepM32]; simp only [endW_nil, List.append_nil]
theorem step32_10 (s : Mach) : stepM (stepM s 32) 10 = stepM s 10 := by rw [stepM32, stepM10, stepM10]; simp only [endW_nil, List.append_nil]
theorem step10_10 (s : Mach) : stepM (stepM s 10) 10 = stepM s 10 := by rw [stepM10, stepM10]; simp only [endW_nil, List.append_nil, addL_nil]
theorem step32n (s : Mach) : ∀ n : Nat, (List.replicate n (32 : UInt8) ++ [32]).foldl stepM s = stepM s 32
  | 0 => rfl
  | n + 1 => by
    rw [List.replicate_succ, List.cons_append, List.foldl_cons, step32n _ n, step32]
theorem step10n (s : Mach) : ∀ n : Nat, (List.replicate n (32 : UInt8) ++ [10]).foldl stepM s = stepM s 10
  | 0 => rfl
  | n + 1 => by
    rw [List.replicate_succ, List.cons_append, List.foldl_cons, step10n _ n, step32_10]

def full (ls : List (List UInt8)) : List (List (List UInt8)) := (ls.map Spec.wordsOf).filter fun w => decide (w ≠ [])
theorem mach_lines : ∀ (t : List UInt8) (o : List (List (List UInt8))) (ws : List (List UInt8)) (w : List UInt8) (y : List UInt8) (ys : List (List UInt8)), Spec.splitB 10 t = y :: ys →
    (stepM (t.foldl stepM (o, ws, w)) 10).1 = o ++ ((ws ++ wordsFrom w y) :: ys.map Spec.wordsOf).filter fun w => decide (w ≠ [])
  | [], o, ws, w, y, ys, h => by
    simp only [Spec.splitB, List.cons.injEq] at h
    obtain ⟨rfl, rfl⟩ := h
    rw [endW_eq, ← addL_f]
    simp [stepM10]
  | c :: r, o, ws, w, y, ys, h => by
    obtain ⟨y', ys', e⟩ := Range.splitB_ne 10 r
    rw [List.foldl_cons]
    simp only [Spec.splitB] at h
    by_cases h10 : c = 10
    · rw [if_pos h10] at h
      subst h10
      simp only [List.cons.injEq] at h
      obtain ⟨rfl, h2⟩ := h
      have e1 : stepM (o, ws, w) 10 = (addL o (ws ++ endW w), [], []) := rfl
      rw [e1, mach_lines r _ [] [] y' ys' e, wordsFrom_nil, List.nil_append, ← h2, e, endW_eq, addL_f]
      rfl
    · rw [if_neg h10, e] at h
      simp only [List.cons.injEq] at h
      obtain ⟨rfl, rfl⟩ := h
      by_cases h32 : c = 32
      · subst h32
        rw [stepM32, mach_lines r _ _ [] y' ys' e, endW_blank, List.append_assoc]
      · have e1 : stepM (o, ws, w) c = (o, ws, w ++ [c]) := by unfold stepM; rw [if_neg h10, if_neg h32]
        rw [e1, mach_lines r _ _ _ y' ys' e, wordsFrom_char _ _ _ h32]
theorem mach_full (t : List UInt8) : (stepM (t.foldl stepM ([], [], [])) 10).1 = full (Spec.splitB 10 t) := by
  obtain ⟨y, ys, e⟩ := Range.splitB_ne 10 t
  rw [mach_lines t [] [] [] y ys e, wordsFrom_nil, e]
  rfl

theorem parse_full : ∀ (ls : List (List UInt8)) (n : Nat) (acc l : List Spec.St), (full ls).map Spec.lineOf = l.map some → acc.length + l.length ≤ 4096 → Spec.parseFrom n acc ls = (acc ++ l, 0, 0)
  | [], n, acc, l, h, _ => by
    cases l with
    | nil => simp [Spec.parseFrom]
    | cons s r => simp [full] at h
  | b :: ls, n, acc, l, h, hl => by
    simp only [Spec.parseFrom]
    by_cases hw : Spec.wordsOf b = []
    · rw [if_pos hw]
      refine parse_full ls (n + 1) acc l ?_ hl
      simpa [full, hw] using h
    · rw [if_neg hw]
      have hf : full (b :: ls) = Spec.wordsOf b :: full ls := by simp [full, hw]
      rw [hf] at h
      cases l with
      | nil => simp at h
      | cons s r =>
        simp only [List.map_cons, List.cons.injEq] at h
        rw [h.1]
        simp only [List.length_cons] at hl
        simp only
        rw [if_neg (by omega), parse_full ls (n + 1) (acc ++ [s]) r h.2 (by simp; omega)]
        simp
theorem text_full : ∀ (l : List Spec.St) (t : List UInt8), Spec.textOf l = some t → (full (Spec.splitB 10 t)).map Spec.lineOf = l.map some
  | [], t, h => by
    simp [Spec.textOf] at h; subst h
    rfl
  | s :: r, t, h => by
    rw [textOf_line] at h
    obtain ⟨b, hb, h⟩ := Option.bind_eq_some_iff.1 h
    obtain ⟨u, hu, rfl⟩ := Option.map_eq_some_iff.1 h
    obtain ⟨b1, b2, b3⟩ := line_back hb
    rw [splitB_join, splitB_cons_none 10 b b1]
    have hf : full ([b] ++ Spec.splitB 10 u) = Spec.wordsOf b :: full (Spec.splitB 10 u) := by simp [full, b2]
    rw [hf, List.map_cons, b3, text_full r u hu]
    rfl

theorem bits3 (x : Int) : ∃ n : Nat, n ≤ 3 ∧ Go.bits .and .i64 x 3 = (n : Int) := by
  refine ⟨(BitVec.ofInt 64 x &&& BitVec.ofInt 64 3).toNat, ?_, ?_⟩
  · rw [BitVec.toNat_and]; exact Nat.le_trans Nat.and_le_right (by decide)
  · have h : (BitVec.ofInt 64 x &&& BitVec.ofInt 64 3).toNat ≤ 3 := by rw [BitVec.toNat_and]; exact Nat.le_trans Nat.and_le_right (by decide)
    show IntKind.i64.wrap ((BitVec.ofInt 64 x &&& BitVec.ofInt 64 3).toNat : Int) = _
    rw [IntKind.wrap_i64]; omega

/-! ### The law -/
/-- What is written so far reads as what is read so far. -/
def Same (said : List UInt8) (i : Nat) (x7 : ByteArray) : Prop := (32 :: x7.data.toList).foldl stepM ([], [], []) = (said.take i).foldl stepM ([], [], [])

theorem blanks_loop (x0 : List S36) (x1 : List Int) (x5 : ByteArray) (x8 : Int) (i : Nat) (hi : i < x5.size) (h5 : x5.size ≤ 4096) (nb : Nat) (hn : nb ≤ 3) (F : Nat) (hF : 8000 ≤ F)
    (go : ∀ (k : Nat) (x7 : ByteArray), F ≤ k → Same x5.data.toList (i + 1) x7 → x7.size ≤ 6 * (i + 1) → fletchlaw21_ScriptWords.l0 k x0 x1 x5 x7 x8 ((i : Int) + 1) = some true)
    (c : UInt8) (hc : x5.data.toList[i]? = some c) (hb : nb = 0 ∨ c = 32 ∨ c = 10) (base : ByteArray) (hbs : Same x5.data.toList i base) (hbz : base.size ≤ 6 * i) :
    ∀ (m j k : Nat) (x7 : ByteArray), j + m = nb → m + F < k → x7.data.toList = base.data.toList ++ List.replicate j 32 →
    fletchlaw21_ScriptWords.l1 k x0 x1 x5 x7 x8 (i : Int) (nb : Int) (j : Int) = some true := by
  have hlen : x5.data.toList.length = x5.size := Array.length_toList
  have hil : i < x5.data.toList.length := by omega
  have hci : x5.data.toList[i] = c := by rw [List.getElem?_eq_getElem hil] at hc; exact Option.some.inj hc
  have htake : x5.data.toList.take (i + 1) = x5.data.toList.take i ++ [c] := by rw [List.take_add_one, hc]; rfl
  intro m
  induction m with
  | zero =>
    intro j k x7 hj hk hx
    obtain ⟨k, rfl⟩ : ∃ k', k = k' + 1 := ⟨k - 1, by omega⟩
    have hjn : j = nb := by omega
    subst hjn
    have hxs : x7.size = base.size + j := by
      have e1 : x7.data.toList.length = x7.size := Array.length_toList
      have e2 : base.data.toList.length = base.size := Array.length_toList
      rw [hx, List.length_append, List.length_replicate] at e1
      omega
    obtain ⟨ex, hex⟩ : ∃ ex, x5.extract ((i : Int)).toNat ((i : Int) + 1).toNat = ex := ⟨_, rfl⟩
    have hexd : ex.data.toList = [c] := by
      rw [← hex, Lib.extract_data, show ((i : Int)).toNat = i from by omega, show ((i : Int) + 1).toNat - i = 1 from by omega, List.drop_eq_getElem_cons hil, hci]; rfl
    have hexs : ex.size = 1 := by
      have e1 : ex.data.toList.length = ex.size := Array.length_toList
      rw [hexd] at e1; exact e1.symm
    have hw1 : wrap64 ((i : Int) + 1) = (i : Int) + 1 := wrap_id _ (by omega) (by omega)
    have hsd : (x7 ++ ex).data.toList = base.data.toList ++ (List.replicate j 32 ++ [c]) := by
      rw [ByteArray.data_append, Array.toList_append, hx, hexd, List.append_assoc]
    have hsz : (x7 ++ ex).size = base.size + j + 1 := by rw [ByteArray.size_append]; omega
    -- what is written reads as what is read
    have hsame : Same x5.data.toList (i + 1) (x7 ++ ex) := by
      unfold Same at hbs ⊢
      rw [htake, List.foldl_append, ← hbs, hsd, ← List.cons_append, List.foldl_append]
      rcases hb with hb | rfl | rfl
      · subst hb; rfl
      · exact step32n _ j
      · exact step10n _ j
    simp only [fletchlaw21_ScriptWords.l1]
    rw [if_neg (by omega), hw1, if_pos (by omega), if_pos (by omega), if_pos (by omega), hex, if_pos (by omega), if_pos (by omega)]
    have hbt : bt x5 (i : Int) = (c.toNat : Int) := by rw [bt_byte x5 i hi, hci]
    rw [hbt]
    by_cases h10 : (c.toNat : Int) = 10
    · have hc10 : c = 10 := UInt8.toNat_inj.1 (by show c.toNat = 10; omega)
      rw [if_pos h10]
      by_cases h1 : (j : Int) > 1
      · rw [if_pos h1, if_pos (by omega)]
        refine go k _ (by omega) ?_ (by rw [ByteArray.size_append, hsz, show (⟨#[10]⟩ : ByteArray).size = 1 from rfl]; omega)
        unfold Same at hsame ⊢
        have e : (x7 ++ ex ++ (⟨#[10]⟩ : ByteArray)).data.toList = (x7 ++ ex).data.toList ++ [10] := by rw [ByteArray.data_append, Array.toList_append]
        rw [e, ← List.cons_append, List.foldl_append, hsame, htake, List.foldl_append, hc10]
        exact step10_10 _
      · rw [if_neg h1]
        exact go k _ (by omega) hsame (by omega)
    · rw [if_neg h10]
      exact go k _ (by omega) hsame (by omega)
  | succ m ih =>
    intro j k x7 hj hk hx
    obtain ⟨k, rfl⟩ : ∃ k', k = k' + 1 := ⟨k - 1, by omega⟩
    have hxs : x7.size = base.size + j := by
      have e1 : x7.data.toList.length = x7.size := Array.length_toList
      have e2 : base.data.toList.length = base.size := Array.length_toList
      rw [hx, List.length_append, List.length_replicate] at e1
      omega
    have e : fletchlaw21_ScriptWords.l1 (k + 1) x0 x1 x5 x7 x8 (i : Int) (nb : Int) (j : Int) = fletchlaw21_ScriptWords.l1 k x0 x1 x5 (x7 ++ ⟨#[32]⟩) x8 (i : Int) (nb : Int) ((j : Int) + 1) := by
      rw [fletchlaw21_ScriptWords.l1, if_pos (by omega), if_pos (by omega), wrap_id _ (by omega) (by omega)]
    rw [e]
    have := ih (j + 1) k (x7 ++ ⟨#[32]⟩) (by omega) (by omega) (by
      rw [ByteArray.data_append, Array.toList_append, hx, List.append_assoc]
      congr 1
      rw [List.replicate_succ']; )
    rw [show ((j + 1 : Nat) : Int) = (j : Int) + 1 from by omega] at this
    exact this

set_option maxRecDepth 100000 in
theorem words_law (l0 : List S36) (hl0 : l0.length ≤ 1024) (x1 : List Int) (x5 : ByteArray) (h5 : x5.size ≤ 4096) (ht : Spec.textOf (l0.map ofS) = some x5.data.toList) :
    ∀ (n i k : Nat) (x7 : ByteArray) (x8 : Int), i + n = x5.size → 20 * n + 20000 < k → 0 ≤ x8 → x8 ≤ i → Same x5.data.toList i x7 → x7.size ≤ 6 * i →
    fletchlaw21_ScriptWords.l0 k l0 x1 x5 x7 x8 (i : Int) = some true := by
  have hlen : x5.data.toList.length = x5.size := Array.length_toList
  intro n
  induction n with
  | zero =>
    intro i k x7 x8 hi hk h80 h8 hs h7
    obtain ⟨k, rfl⟩ : ∃ k', k = k' + 1 := ⟨k - 1, by omega⟩
    rw [fletchlaw21_ScriptWords.l0, if_neg (by omega), if_pos (by omega)]
    have hp : Spec.parse (32 :: x7.data.toList) = (l0.map ofS, 0, 0) := by
      have e1 : x7.data.toList.length = x7.size := Array.length_toList
      unfold Spec.parse
      rw [if_neg (by simp only [List.length_cons]; omega)]
      refine parse_full _ 0 [] (l0.map ofS) ?_ (by simp; omega)
      unfold Same at hs
      rw [List.take_of_length_le (by omega)] at hs
      rw [← mach_full, hs, mach_full]
      exact text_full _ _ ht
    have hd : ((⟨#[32]⟩ : ByteArray) ++ x7).data.toList = 32 :: x7.data.toList := by rw [ByteArray.data_append, Array.toList_append]; rfl
    unfold script_Parse.f
    rw [Option.bind_some, hd, hp]
    simp only [ansP, if_true]
    rw [toS_ofS, same_refl l0 (by omega) k (by omega)]
    rfl
  | succ n ih =>
    intro i k x7 x8 hi hk h80 h8 hs h7
    obtain ⟨k, rfl⟩ : ∃ k', k = k' + 1 + 1 + 1 := ⟨k - 3, by omega⟩
    have hil : i < x5.data.toList.length := by omega
    obtain ⟨c, hc⟩ : ∃ c, x5.data.toList[i] = c := ⟨_, rfl⟩
    have hc? : x5.data.toList[i]? = some c := by rw [List.getElem?_eq_getElem hil, hc]
    have hbt : bt x5 (i : Int) = (c.toNat : Int) := by rw [bt_byte x5 i (by omega), hc]
    -- with nb blanks and the next place of the blanks
    have run : ∀ (nb : Nat) (x8' : Int) (K : Nat), nb ≤ 3 → 0 ≤ x8' → x8' ≤ i + 1 → (nb = 0 ∨ c = 32 ∨ c = 10) → 20 * n + 20010 < K → fletchlaw21_ScriptWords.l1 K l0 x1 x5 x7 x8' (i : Int) (nb : Int) 0 = some true := by
      intro nb x8' K hnb h0 h1 hb hK
      have hk1 : nb + (20 * n + 20001) < K := by omega
      have hr0 : x7.data.toList = x7.data.toList ++ List.replicate 0 32 := (List.append_nil _).symm
      have := blanks_loop l0 x1 x5 x8' i (by omega) h5 nb hnb (20 * n + 20001) (by omega) (fun k x7' hk' hs' h7' => by
        have := ih (i + 1) k x7' x8' (by omega) (by omega) h0 (by omega) hs' h7'
        rw [show ((i + 1 : Nat) : Int) = (i : Int) + 1 from by omega] at this
        exact this) c hc? hb x7 hs h7 nb 0 K x7 (Nat.zero_add nb) hk1 hr0
      exact this
    have go : ∀ (b : Bool), (b = true → x8 < (x1.length : Int) ∧ (c = 32 ∨ c = 10)) → fletchlaw21_ScriptWords.j2 (k + 1 + 1) l0 x1 x5 x7 x8 (i : Int) 0 b = some true := by
      intro b hb
      rw [fletchlaw21_ScriptWords.j2]
      cases b with
      | false =>
        rw [if_neg (by simp), fletchlaw21_ScriptWords.j3]
        exact run 0 x8 k (by omega) h80 (by omega) (.inl rfl) (by omega)
      | true =>
        obtain ⟨hb1, hb2⟩ := hb rfl
        obtain ⟨nb, hn1, hn2⟩ := bits3 (rd x1 x8)
        rw [if_pos rfl, if_pos h80, if_pos hb1, hn2, fletchlaw21_ScriptWords.j3, wrap_id _ (by omega) (by omega)]
        exact run nb (x8 + 1) k hn1 (by omega) (by omega) (.inr hb2) (by omega)
    rw [fletchlaw21_ScriptWords.l0, if_pos (by omega)]
    by_cases h8l : x8 < (x1.length : Int)
    · rw [if_pos h8l, if_pos (by omega), hbt]
      by_cases c32 : (c.toNat : Int) = 32
      · rw [if_pos c32]
        exact go true (fun _ => ⟨h8l, .inl (UInt8.toNat_inj.1 (by show c.toNat = 32; omega))⟩)
      · rw [if_neg c32]
        refine go _ (fun hb => ⟨h8l, .inr ?_⟩)
        have := beq_iff_eq.1 hb
        exact UInt8.toNat_inj.1 (by show c.toNat = 10; omega)
    · rw [if_neg h8l]
      exact go false (fun h => by cases h)

theorem pureWords (l0 : List S36) (l1 : List Int) (hw : ∀ z ∈ l1, -9223372036854775808 ≤ z ∧ z ≤ 9223372036854775807) : ∃ k, fletchlaw21_ScriptWords.f k l0 l1 = some true := by
  refine ⟨200001, ?_⟩
  unfold fletchlaw21_ScriptWords.f
  rw [wakes_true _ (by decide), Option.bind_some, if_pos rfl]
  by_cases h : (l0.length : Int) > 1024
  · rw [if_pos h]
  rw [if_neg h]
  cases ht : Spec.textOf (l0.map ofS) with
  | none =>
    have hf : script_Text.f l0 = some (⟨#[]⟩, 1) := by unfold script_Text.f; rw [if_pos (by omega), ht]; rfl
    rw [hf, Option.bind_some, if_neg (show ¬ ((1 : Int) = 0) by decide), fletchlaw21_ScriptWords.j0, if_pos rfl]
  | some u =>
    have hf : script_Text.f l0 = some (⟨u.toArray⟩, 0) := by unfold script_Text.f; rw [if_pos (by omega), ht]; simp [fin]
    rw [hf, Option.bind_some]
    simp only [if_true]
    rw [fletchlaw21_ScriptWords.j0]
    by_cases hb : decide (((⟨u.toArray⟩ : ByteArray).size : Int) > 4096) = true
    · rw [if_pos hb]
    · rw [if_neg hb]
      have hs : (⟨u.toArray⟩ : ByteArray).size ≤ 4096 := Nat.le_of_not_lt fun hh => hb (decide_eq_true (by omega))
      exact words_law l0 (by omega) l1 ⟨u.toArray⟩ hs (by rw [ht]) (⟨u.toArray⟩ : ByteArray).size 0 200000 ⟨#[]⟩ 0 (by omega) (by omega) (by omega) (by omega) rfl (by show 0 ≤ _; omega)
end Go.Proofs.YtpeokbbidipdkaaDoor.Q
