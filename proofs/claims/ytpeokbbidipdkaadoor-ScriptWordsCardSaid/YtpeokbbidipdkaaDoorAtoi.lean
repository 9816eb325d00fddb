/-
  strconv.Atoi of a numeral that an int holds: the library's contract in the form that the printed texts ask.
-/
import Derived.Test.YtpeokbbidipdkaaDoorQ0
import Derived.Test.YtpeokbbidipdkaaDoorSh
namespace Go.Proofs.YtpeokbbidipdkaaDoor.Q
open Go.RowKit Go.Proofs.YtpeokbbidipdkaaDoorW.PrintWords Go.Proofs.YtpeokbbidipdkaaDoorW.PrintLast Go.Proofs.YtpeokbbidipdkaaDoorW.PrintMore

def strconv_Atoi_40.f (a0 : ByteArray) : Option (Int × Option Int) :=
  if a0.size ≤ 9223372036854775806 then (match Lib.atoiAll a0.data.toList with | .ok v => some (v, none) | _ => none) else none

theorem strconv_Atoi_40.calls (a0 : ByteArray) (r1 : Int) (r2 : Option Int) (w : World) (h : strconv_Atoi_40.f a0 = some (r1, r2)) :
    Calls Tryd.prog 40 #[.string a0] w fun e w' => e = .returned (.tuple #[.int .i64 r1, errW r2]) ∧ Below w.heap.size w w' := by
  unfold strconv_Atoi_40.f at h
  split at h
  · rename_i hr
    split at h
    · rename_i v hv
      obtain ⟨rfl, rfl⟩ := Prod.mk.inj (Option.some.inj h)
      refine (Tryd.strconv_Atoi_ok a0 hr _ hv w).mono ?_
      rintro e w' ⟨rfl, rfl | ⟨t, rfl⟩⟩
      · exact ⟨rfl, Below.refl _ _⟩
      · exact ⟨rfl, bytes_below (Below.refl _ _) (Nat.le_refl _) 5 t⟩
    · cases h
  · cases h

end Go.Proofs.YtpeokbbidipdkaaDoor.Q
