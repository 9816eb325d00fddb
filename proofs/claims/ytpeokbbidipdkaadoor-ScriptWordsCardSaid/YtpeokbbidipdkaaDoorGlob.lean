/-
  The premise that the contracts bear which come to strconv.Itoa: the library's table of powers of ten holds what its text lays; it goes on through whatever leaves the old blocks alone.
-/
import Derived.Lib.LaidTab
import Derived.Lib.Itoa
import Derived.Lib.ItoaMem
import Derived.WalkSmall
import Derived.Below
import Derived.Test.YtpeokbbidipdkaaDoorProg
import Derived.KernelRfl
namespace Go.Proofs.YtpeokbbidipdkaaDoor
open Go.RowKit

def Glob (w : World) : Prop := Lib.TabIs Tryd.prog w "internal/strconv.uint64pow10" .u64 Lib.pow10Tab

theorem gPow10 : Tryd.prog.globalNamed "internal/strconv.uint64pow10" = some 3 := by kernel_rfl

theorem Glob.below {w w' : World} (h : Glob w) (hb : Below w.heap.size w w') : Glob w' := by
  unfold Glob Lib.TabIs at h ⊢
  refine var?_below hb gPow10 ?_ h
  unfold World.var? at h
  rw [gPow10] at h
  simp only [Option.bind_some] at h
  rcases Nat.lt_or_ge 3 w.heap.size with hlt | hge
  · exact hlt
  · rw [Array.getElem?_eq_none hge] at h
    cases h

theorem Glob.drewN {w : World} {n : Nat} (h : Glob w) : Glob (w.drewN n) := h
theorem Glob.drew {w : World} (h : Glob w) : Glob w.drew := h
theorem Glob.alloc {w : World} {o : Obj} (h : Glob w) : Glob (w.alloc o) := h.below ((Below.refl _ _).alloc (Nat.le_refl _) _)

end Go.Proofs.YtpeokbbidipdkaaDoor
