/-
  What script.Text writes, in plain words.
-/
import Derived.Test.YtpeokbbidipdkaaDoorSpec
import Derived.Lib.ItoaNum
import Derived.Lib.ItoaLen
namespace Go.Proofs.YtpeokbbidipdkaaDoor.Spec
open Go

def nameOf (k : Int) : List UInt8 := names.getD (k - 1).toNat []
def wide (x : Int) : Prop := x ≤ -1000000000000000000 ∨ 1000000000000000000 ≤ x
instance (x : Int) : Decidable (wide x) := inferInstanceAs (Decidable (_ ∨ _))
/-- The numbers of a step's fields, and what is left of it. -/
def fieldsText : List Int → St → Option (List UInt8 × St)
  | [], s => some ([], s)
  | f :: fs, s => if wide (get s f) then none else (fieldsText fs (put s f 0)).map fun p => (32 :: Lib.itoa (get s f) ++ p.1, p.2)
def zeroSt : St := ⟨0, 0, 0, 0, 0⟩
/-- .. and the line's end, and what comes behind it. -/
def endText (o : Option (List UInt8 × St)) (rest : Option (List UInt8)) : Option (List UInt8) :=
  match o with
  | none => none
  | some p => if p.2 = zeroSt then rest.map fun t => p.1 ++ 10 :: t else none
def textOf : List St → Option (List UInt8)
  | [] => some []
  | s :: r => if s.k < 1 ∨ 11 < s.k then none else (endText (fieldsText (fieldsOf s.k) { s with k := 0 }) (textOf r)).map (nameOf s.k ++ ·)

theorem textOf_bad (s : St) (r : List St) (h : s.k < 1 ∨ 11 < s.k) : textOf (s :: r) = none := by simp only [textOf]; rw [if_pos h]
theorem textOf_good (s : St) (r : List St) (h : ¬ (s.k < 1 ∨ 11 < s.k)) : textOf (s :: r) = (endText (fieldsText (fieldsOf s.k) { s with k := 0 }) (textOf r)).map (nameOf s.k ++ ·) := by simp only [textOf]; rw [if_neg h]
theorem fieldsText_wide (f : Int) (fs : List Int) (s : St) (h : wide (get s f)) : fieldsText (f :: fs) s = none := by simp only [fieldsText]; rw [if_pos h]
theorem fieldsText_ok (f : Int) (fs : List Int) (s : St) (h : ¬ wide (get s f)) : fieldsText (f :: fs) s = (fieldsText fs (put s f 0)).map fun p => (32 :: Lib.itoa (get s f) ++ p.1, p.2) := by simp only [fieldsText]; rw [if_neg h]
theorem endText_step (c : List UInt8) (o : Option (List UInt8 × St)) (rest : Option (List UInt8)) : endText (o.map fun p => (c ++ p.1, p.2)) rest = (endText o rest).map (c ++ ·) := by
  cases o with
  | none => rfl
  | some p =>
    simp only [Option.map_some, endText]
    split
    · cases rest <;> simp
    · rfl

theorem itoa_len (x : Int) (h : ¬ wide x) : (Lib.itoa x).length ≤ 21 := by
  unfold wide at h
  unfold Lib.itoa
  have h1 := Lib.nDigits_le20 x.natAbs
  have h2 := Lib.nDigits_le20 x.toNat
  split
  · rw [List.length_cons, Lib.decDigits_length]; have := h1 (by omega); omega
  · rw [Lib.decDigits_length]; have := h2 (by omega); omega

end Go.Proofs.YtpeokbbidipdkaaDoor.Spec
