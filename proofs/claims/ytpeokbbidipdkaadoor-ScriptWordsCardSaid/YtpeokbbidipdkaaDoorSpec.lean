/-
  What the script layer means, in plain words over lists of bytes: numbers, lines, texts. No program in sight.
-/
import Derived.Lib.AtoiAll
import Derived.Lib.AtoiAllCases
import Derived.Lib.ItoaNum
import Derived.Lib.SlTrimSet
import Derived.Lib.Strings
namespace Go.Proofs.YtpeokbbidipdkaaDoor.Spec
open Go

def isDig (b : UInt8) : Bool := decide (48 ≤ b.toNat ∧ b.toNat ≤ 57)
def digits (l : List UInt8) : List UInt8 := if l.head? = some 45 then l.tail else l
def dstep (a : Nat) (c : UInt8) : Nat := a * 10 + (c.toNat - 48)
def valOf (acc : Nat) (l : List UInt8) : Nat := l.foldl dstep acc
theorem valOf_nil (acc : Nat) : valOf acc [] = acc := rfl
theorem valOf_cons' (acc : Nat) (c : UInt8) (r : List UInt8) : valOf acc (c :: r) = valOf (dstep acc c) r := by unfold valOf; rw [List.foldl_cons]
theorem valOf_cons (acc : Nat) (c : UInt8) (r : List UInt8) : valOf acc (c :: r) = valOf (acc * 10 + (c.toNat - 48)) r := by rw [valOf_cons']; unfold dstep; rfl
theorem valOf_append (acc : Nat) (l r : List UInt8) : valOf acc (l ++ r) = valOf (valOf acc l) r := by simp [valOf]
/-- A number's word. -/
def isNum (l : List UInt8) : Bool :=
  decide (digits l ≠ []) && decide ((digits l).length ≤ 18) && (digits l).all isDig && (decide ((digits l).head? ≠ some 48) || decide (l = [48]))
def numVal (l : List UInt8) : Int := if l.head? = some 45 then -(valOf 0 (digits l) : Int) else (valOf 0 (digits l) : Int)
def numOf (l : List UInt8) : Option Int := if isNum l = true then some (numVal l) else none

theorem mul_step (a d P : Nat) (hd : d ≤ 9) : (a * 10 + d + 1) * P ≤ (a + 1) * (P * 10) := by
  have h1 : a * 10 + d + 1 ≤ (a + 1) * 10 := by omega
  have h2 := Nat.mul_le_mul_right P h1
  have h3 : (a + 1) * 10 * P = (a + 1) * (P * 10) := by rw [Nat.mul_assoc, Nat.mul_comm 10]
  omega

theorem valOf_lt (l : List UInt8) : ∀ (acc : Nat), l.all isDig = true → valOf acc l < (acc + 1) * 10 ^ l.length := by
  induction l with
  | nil => intro acc _; simp only [valOf_nil, List.length_nil, Nat.pow_zero]; omega
  | cons c r ih =>
    intro acc h
    rw [List.all_cons, Bool.and_eq_true] at h
    have hc : 48 ≤ c.toNat ∧ c.toNat ≤ 57 := by simpa [isDig] using h.1
    have h1 := ih (acc * 10 + (c.toNat - 48)) h.2
    have hc9 : c.toNat - 48 ≤ 9 := by omega
    have h2 := mul_step acc (c.toNat - 48) (10 ^ r.length) hc9
    have h3 : 10 ^ (c :: r).length = 10 ^ r.length * 10 := by rw [List.length_cons, Nat.pow_succ]
    rw [h3]
    rw [valOf_cons]
    exact Nat.lt_of_lt_of_le h1 h2

theorem parse_val (l : List UInt8) : ∀ (acc : Nat), l.all isDig = true → (acc + 1) * 10 ^ l.length ≤ 1000000000000000000 → Lib.parseUint10 acc l = .ok (valOf acc l) := by
  induction l with
  | nil => intro acc _ _; rfl
  | cons c r ih =>
    intro acc h hb
    rw [List.all_cons, Bool.and_eq_true] at h
    have hc : 48 ≤ c.toNat ∧ c.toNat ≤ 57 := by simpa [isDig] using h.1
    have hp : 1 ≤ 10 ^ r.length := Nat.one_le_pow _ _ (by decide)
    have h3 : 10 ^ (c :: r).length = 10 ^ r.length * 10 := by rw [List.length_cons, Nat.pow_succ]
    rw [h3] at hb
    have hc9 : c.toNat - 48 ≤ 9 := by omega
    have h2 := mul_step acc (c.toNat - 48) (10 ^ r.length) hc9
    have hb2 : (acc + 1) * 10 ≤ 1000000000000000000 := by
      have := Nat.mul_le_mul_left (acc + 1) (Nat.mul_le_mul_right 10 hp)
      omega
    simp only [Lib.parseUint10, valOf_cons]
    rw [if_pos hc, if_neg (by omega), if_neg (by omega)]
    exact ih _ h.2 (Nat.le_trans h2 hb)

theorem pow18 {n : Nat} (h : n ≤ 18) : 10 ^ n ≤ 1000000000000000000 := Nat.le_trans (Nat.pow_le_pow_right (by decide) h) (by decide)

theorem parts {l : List UInt8} (h : isNum l = true) : digits l ≠ [] ∧ (digits l).length ≤ 18 ∧ (digits l).all isDig = true ∧ ((digits l).head? ≠ some 48 ∨ l = [48]) := by
  unfold isNum at h
  simp only [Bool.and_eq_true, Bool.or_eq_true, decide_eq_true_eq] at h
  exact ⟨h.1.1.1, h.1.1.2, h.1.2, h.2⟩

/-- What strconv.Atoi makes of a number's word. -/
theorem atoi_num {l : List UInt8} (h : isNum l = true) : Lib.atoiAll l = .ok (numVal l) := by
  obtain ⟨h0, h1, h2, _⟩ := parts h
  have hb : valOf 0 (digits l) < 1000000000000000000 := by
    have h3 := valOf_lt (digits l) 0 h2
    have h4 := pow18 h1
    omega
  have hm : Lib.parseMag (digits l) = .ok (valOf 0 (digits l)) := by
    unfold Lib.parseMag
    rw [if_neg h0]
    exact parse_val _ 0 h2 (by have := pow18 h1; omega)
  cases l with
  | nil => simp [digits] at h0
  | cons c r =>
    unfold numVal
    by_cases hc : c = 45
    · subst hc
      have hd : digits (45 :: r) = r := by simp [digits]
      rw [hd] at hm hb ⊢
      simp only [Lib.atoiAll]
      rw [if_pos (Or.inr (by decide)), hm]
      have h45 : (45 : UInt8).toNat = 45 := by decide
      simp only [h45]
      rw [if_neg (by simp), if_neg (by omega)]
      simp
    · have hd : digits (c :: r) = c :: r := by simp [digits, hc]
      rw [hd] at hm hb h2 ⊢
      have hcd : 48 ≤ c.toNat ∧ c.toNat ≤ 57 := by
        have := List.all_eq_true.1 h2 c (by simp)
        simpa [isDig] using this
      have h45 : c.toNat ≠ 45 := by omega
      simp only [Lib.atoiAll]
      rw [if_neg (by omega), hm]
      have hh : ¬ (c :: r).head? = some 45 := by simp [hc]
      rw [if_neg hh]
      simp only
      rw [if_neg (by omega), if_neg (by omega), if_neg h45]

/-! ### Kinds, fields, a line's step -/
structure St where
  k : Int
  n : Int
  o : Int
  i : Int
  j : Int
  deriving DecidableEq

def names : List (List UInt8) := [[97, 99, 113, 117, 105, 114, 101], [114, 101, 108, 101, 97, 115, 101], [108, 111, 99, 97, 116, 101], [116, 105, 99, 107], [100, 101, 108, 105, 118, 101, 114], [100, 111, 117, 98, 108, 101], [100, 114, 111, 112], [115, 97, 118, 101], [97, 114, 109], [111, 102, 102], [111, 110]]
def idxFrom (x : List UInt8) : Int → List (List UInt8) → Int
  | _, [] => -1
  | i, y :: ys => if x = y then i else idxFrom x (i + 1) ys
/-- 0: none. -/
def kindOf (x : List UInt8) : Int := idxFrom x 0 names + 1
def fieldsOf (k : Int) : List Int :=
  if k = 1 ∨ k = 2 ∨ k = 3 then [0, 1] else if k = 4 ∨ k = 8 ∨ k = 11 then [0] else if k = 5 ∨ k = 6 ∨ k = 7 then [2] else if k = 9 then [0, 2, 3] else [0, 3]
def put (s : St) (f x : Int) : St := if f = 0 then { s with n := x } else if f = 1 then { s with o := x } else if f = 2 then { s with i := x } else { s with j := x }
def get (s : St) (f : Int) : Int := if f = 0 then s.n else if f = 1 then s.o else if f = 2 then s.i else s.j
def fill : List Int → List (List UInt8) → St → Option St
  | [], _, s => some s
  | _ :: _, [], _ => none
  | f :: fs, a :: as, s => match numOf a with
    | none => none
    | some x => fill fs as (put s f x)
/-- The step of a line's words. -/
def lineOf : List (List UInt8) → Option St
  | [] => none
  | w :: as => if kindOf w = 0 ∨ as.length ≠ (fieldsOf (kindOf w)).length then none else fill (fieldsOf (kindOf w)) as ⟨kindOf w, 0, 0, 0, 0⟩

/-! ### Texts -/
def splitB (c : UInt8) : List UInt8 → List (List UInt8)
  | [] => [[]]
  | x :: r => if x = c then [] :: splitB c r else (match splitB c r with | [] => [[x]] | y :: ys => (x :: y) :: ys)
def wordsOf (l : List UInt8) : List (List UInt8) := (splitB 32 l).filter fun w => decide (w ≠ [])
/-- n lines, which said acc, are behind. -/
def parseFrom : Nat → List St → List (List UInt8) → List St × Int × Int
  | _, acc, [] => (acc, 0, 0)
  | n, acc, l :: ls =>
    if wordsOf l = [] then parseFrom (n + 1) acc ls
    else match lineOf (wordsOf l) with
      | none => ([], (n : Int) + 1, 50)
      | some s => if acc.length = 4096 then ([], (n : Int) + 1, 3) else parseFrom (n + 1) (acc ++ [s]) ls
def parse (t : List UInt8) : List St × Int × Int := if 65536 < t.length then ([], 0, 3) else parseFrom 0 [] (splitB 10 t)

end Go.Proofs.YtpeokbbidipdkaaDoor.Spec
