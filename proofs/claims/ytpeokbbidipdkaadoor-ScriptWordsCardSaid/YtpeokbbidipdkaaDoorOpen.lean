/-
  The rows' shared parts: what the listed table gives, how a slice of steps, of strings, of integers is opened.
-/
import Derived.Test.YtpeokbbidipdkaaDoorRows
import Derived.Test.YtpeokbbidipdkaaDoorGlob
import Derived.Test.YtpeokbbidipdkaaDoorQ0
import Derived.WalkKit
import Derived.ProofKit
import Derived.OpenShut
import Derived.ShutString
import Derived.ChangeOld
import Derived.SizedLaws
import Derived.LaidMore
import Derived.SliceStrings
import Derived.ChangeSlices
import Derived.Deep.Slices
import Derived.Lay
import Derived.Lib.LaidTab
import Derived.Stop.Joined
import Derived.Stop.LaidErr
namespace Go.Proofs.YtpeokbbidipdkaaDoor.Open
open Go Go.ChangeShapes Go.WideShapes Go.ChangeAt Go.RowKit Go.Proofs.YtpeokbbidipdkaaDoorW.PrintWords Go.Proofs.YtpeokbbidipdkaaDoorW.PrintLast Go.Proofs.YtpeokbbidipdkaaDoorW.PrintMore Go.Proofs.YtpeokbbidipdkaaDoor.Q
set_option linter.unusedVariables false

theorem own : ownKnob Tryd.prog.godebug = none := by kernel_rfl
theorem laidOut : laidOutB Tryd.prog = true := by kernel_rfl
theorem gType : (Tryd.prog.globals[3]?).map (·.type) = some 108 := by kernel_rfl
theorem plainLaid : (Rows.scriptLinesRow.laid.all fun x => x.2.handleName?.isNone) = true := by kernel_rfl

theorem glob_of {W : World} (h : laidMetH Tryd.prog Rows.scriptLinesRow.laid W) : Glob W := by
  rw [MakeChecks.laidMetH_plain _ _ _ plainLaid] at h
  have h1 := laidMet.tail (laidMet.tail h)
  exact Lib.tabIs_of_head (k := .u64) (zs := Lib.pow10Tab) gPow10 gType Tryd.underlying108 Tryd.underlying86 (by kernel_rfl) (by kernel_rfl) h1

theorem world_met (os : Os) (args : Array Value) : laidMetH Tryd.prog Rows.scriptLinesRow.laid (((World.laidAll Tryd.prog os Rows.scriptLinesRow.laid)).forCall (fun _ _ => 0) ⟨#[], args, []⟩).memory := by
  rw [MakeChecks.laidMetH_plain _ _ _ plainLaid]
  exact laidMet_laidAll _ (by kernel_rfl) (by kernel_rfl)

section
variable {H : Type} {enc : TypeId × Value → H} {w : World} {base : Nat} {spare : Nat → Bool} {held : Bool}

theorem strings_in {fuel : Nat} {A : Option Addr} {n c : Nat} {x : DataW H × List MemPlace} (h : DataW.trod enc Tryd.prog w base (fun _ => true) held fuel 37 [.slice A n c] = some x) :
    ∃ l : List ByteArray, l.length = n ∧ n ≤ c ∧ Kd.C Kd.string w A n l := by
  rcases open_strings Tryd.underlying37 Tryd.underlying9 (by kernel_rfl) h with ⟨h1, _⟩ | ⟨a, len, cap, ss, h1, _, hl, hm, hs, _, hcell, _⟩
  · simp only [List.cons.injEq, Value.slice.injEq, and_true] at h1
    obtain ⟨rfl, rfl, rfl⟩ := h1
    exact ⟨[], rfl, Nat.le_refl _, rfl, by omega, fun h => absurd h (by omega)⟩
  · simp only [List.cons.injEq, Value.slice.injEq, and_true] at h1
    obtain ⟨rfl, rfl, rfl⟩ := h1
    rw [if_pos rfl] at hs
    have hlen : (ss.take n).length = n := by rw [List.length_take]; omega
    refine ⟨ss.take n, hlen, hl, hlen, by unfold maxLen at hm; omega, fun _ => ⟨a, rfl, fun j p hj => ⟨[.string p], rfl, rfl, fun i u hu => ?_⟩⟩⟩
    have hjn : j < n := by have := (List.getElem?_eq_some_iff.1 hj).1; omega
    have hi0 : i = 0 := by
      rcases Nat.eq_zero_or_pos i with h | h
      · exact h
      · rw [List.getElem?_eq_none (by simp; omega)] at hu; cases hu
    subst hi0
    simp at hu
    subst hu
    have e : ss.getD j ByteArray.empty = p := by
      rw [List.getElem?_take, if_pos hjn] at hj
      rw [List.getD_eq_getElem?_getD, hj]; rfl
    have := hcell j (by omega)
    rw [e] at this
    simpa [Kd.string, Kd.scalar] using this

theorem ints_in {fuel : Nat} {A : Option Addr} {n c : Nat} {x : DataW H × List MemPlace} (h : DataW.trod enc Tryd.prog w base (fun _ => true) held fuel 33 [.slice A n c] = some x) :
    ∃ l : List Int, l.length = n ∧ n ≤ c ∧ Kd.C (Kd.int .i64) w A n l ∧ ∀ z ∈ l, -9223372036854775808 ≤ z ∧ z ≤ 9223372036854775807 := by
  rcases open_ints Tryd.underlying33 Tryd.underlying3 (by kernel_rfl) h with ⟨h1, _⟩ | ⟨a, len, cap, ss, h1, _, hl, hm, hs, _, hcell, hwf⟩
  · simp only [List.cons.injEq, Value.slice.injEq, and_true] at h1
    obtain ⟨rfl, rfl, rfl⟩ := h1
    exact ⟨[], rfl, Nat.le_refl _, ⟨rfl, by omega, fun h => absurd h (by omega)⟩, by simp⟩
  · simp only [List.cons.injEq, Value.slice.injEq, and_true] at h1
    obtain ⟨rfl, rfl, rfl⟩ := h1
    rw [if_pos rfl] at hs
    have hlen : (ss.take n).length = n := by rw [List.length_take]; omega
    refine ⟨ss.take n, hlen, hl, ⟨hlen, by unfold maxLen at hm; omega, fun _ => ⟨a, rfl, fun j p hj => ⟨[.int .i64 p], rfl, rfl, fun i u hu => ?_⟩⟩⟩, fun z hz => ?_⟩
    · have hjn : j < n := by have := (List.getElem?_eq_some_iff.1 hj).1; omega
      have hi0 : i = 0 := by
        rcases Nat.eq_zero_or_pos i with h | h
        · exact h
        · rw [List.getElem?_eq_none (by simp; omega)] at hu; cases hu
      subst hi0
      simp at hu
      subst hu
      have e : ss.getD j 0 = p := by
        rw [List.getElem?_take, if_pos hjn] at hj
        rw [List.getD_eq_getElem?_getD, hj]; rfl
      have := hcell j (by omega)
      rw [e] at this
      simpa [Kd.int, Kd.scalar] using this
    · have := hwf z (List.mem_of_mem_take hz)
      simpa [Lit.wf, IntKind.min, IntKind.max, IntKind.signed, IntKind.bits] using this

set_option maxRecDepth 100000 in
theorem step_in {fuel : Nat} {cs : List Value} {x : DataW H × List MemPlace} (hl : cs.length = 5) (h : DataW.trod enc Tryd.prog w base spare held fuel 36 cs = some x) :
    ∃ s : S36, cs = [.int .i64 s.f0, .int .i64 s.f1, .int .i64 s.f2, .int .i64 s.f3, .int .i64 s.f4] := by
  obtain ⟨xs, k, hk, hxy, _, hxl, hf⟩ := DataW.trod_struct Tryd.underlying36 h
  have c3 : Tryd.prog.cellsOf 3 = 1 := by kernel_rfl
  match cs, hl with
  | [v0, v1, v2, v3, v4], _ =>
    have hx5 : xs.length = 5 := hxl
    match xs, hx5 with
    | [y0, y1, y2, y3, y4], _ =>
      have g0 := hf 0 _ rfl
      have g1 := hf 1 _ rfl
      have g2 := hf 2 _ rfl
      have g3 := hf 3 _ rfl
      have g4 := hf 4 _ rfl
      simp [c3] at g0 g1 g2 g3 g4
      obtain ⟨a0, e0, _⟩ := DataW.trod_int Tryd.underlying3 g0
      obtain ⟨a1, e1, _⟩ := DataW.trod_int Tryd.underlying3 g1
      obtain ⟨a2, e2, _⟩ := DataW.trod_int Tryd.underlying3 g2
      obtain ⟨a3, e3, _⟩ := DataW.trod_int Tryd.underlying3 g3
      obtain ⟨a4, e4, _⟩ := DataW.trod_int Tryd.underlying3 g4
      simp only [List.cons.injEq, and_true] at e0 e1 e2 e3 e4
      subst e0 e1 e2 e3 e4
      exact ⟨⟨a0, a1, a2, a3, a4⟩, rfl⟩

set_option maxRecDepth 100000 in
theorem steps_in {fuel : Nat} {A : Option Addr} {n c : Nat} {x : DataW H × List MemPlace} (h : DataW.trod enc Tryd.prog w base (fun _ => true) held fuel 23 [.slice A n c] = some x) :
    ∃ l : List S36, l.length = n ∧ n ≤ c ∧ Kd.C k36 w A n l := by
  rcases Go.Deep.open_slice Tryd.underlying23 h with ⟨h1, _⟩ | ⟨a, len, cap, m, f, D, Pl, h1, _, hl, hm, hs, _, hel⟩
  · simp only [List.cons.injEq, Value.slice.injEq, and_true] at h1
    obtain ⟨rfl, rfl, rfl⟩ := h1
    exact ⟨[], rfl, Nat.le_refl _, rfl, by omega, fun h => absurd h (by omega)⟩
  · simp only [List.cons.injEq, Value.slice.injEq, and_true] at h1
    obtain ⟨rfl, rfl, rfl⟩ := h1
    rw [if_pos rfl] at hs
    have c36 : Tryd.prog.cellsOf 36 = 5 := by kernel_rfl
    have each : ∀ i, i < n → ∃ s : S36, ∀ j u, ([Value.int .i64 s.f0, .int .i64 s.f1, .int .i64 s.f2, .int .i64 s.f3, .int .i64 s.f4])[j]? = some u → w.cell? (a.add (i * 5 + j)) = some u := by
      intro i hi
      obtain ⟨cs', hc, ht⟩ := hel i (by omega)
      rw [c36] at hc
      obtain ⟨_, hlen, hcell⟩ := World.cells?_some hc
      obtain ⟨s, rfl⟩ := step_in hlen ht
      refine ⟨s, fun j u hu => ?_⟩
      have hj : j < 5 := by have := (List.getElem?_eq_some_iff.1 hu).1; simpa using this
      have := hcell j hj
      rw [Go.Deep.add_add] at this
      rw [this, hu]
    obtain ⟨f, hf⟩ : ∃ f : Nat → S36, ∀ i, i < n → ∀ j u, ([Value.int .i64 (f i).f0, .int .i64 (f i).f1, .int .i64 (f i).f2, .int .i64 (f i).f3, .int .i64 (f i).f4])[j]? = some u → w.cell? (a.add (i * 5 + j)) = some u :=
      ⟨fun i => if h : i < n then (each i h).choose else z36, fun i hi => by simp only [dif_pos hi]; exact (each i hi).choose_spec⟩
    refine ⟨(List.range n).map f, by simp, hl, by simp, by unfold maxLen at hm; omega, fun _ => ⟨a, rfl, fun j p hj => ?_⟩⟩
    have hjn : j < n := by have := (List.getElem?_eq_some_iff.1 hj).1; simpa using this
    obtain rfl : f j = p := by
      rw [List.getElem?_map, List.getElem?_range hjn] at hj
      simpa using hj
    exact ⟨_, rfl, k36_mk w (f j), fun i u hu => hf j hjn i u hu⟩
end
end Go.Proofs.YtpeokbbidipdkaaDoor.Open
