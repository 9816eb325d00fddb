-- Written by a program of the session (wip/tools/gprint.py over the kit's printer).
import Derived.Test.YtpeokbbidipdkaaDoorQ0
import Derived.Test.YtpeokbbidipdkaaDoorQ10
import Derived.Test.YtpeokbbidipdkaaDoorQ11
import Derived.Test.YtpeokbbidipdkaaDoorParse
import Derived.Test.YtpeokbbidipdkaaDoorText
namespace Go.Proofs.YtpeokbbidipdkaaDoor.Q
open Go.RowKit Go.Proofs.YtpeokbbidipdkaaDoorW.PrintWords Go.Proofs.YtpeokbbidipdkaaDoorW.PrintLast Go.Proofs.YtpeokbbidipdkaaDoorW.PrintMore
attribute [local go_sem] max2_int min2_int max_two min_two max_three min_three max_four min_four   -- for this text's walks alone
set_option linter.unusedVariables false
set_option linter.unusedSimpArgs false

/-! ### fletchlaw21_ScriptKeeps: function 7 -/
mutual
def fletchlaw21_ScriptKeeps.j0 : Nat → List (S36) → ByteArray → List (S36) → ByteArray → Int → Bool → Option (Bool)
  | 0, _, _, _, _, _, _ => none
  | k + 1, x0, x1, x5, x6, x7, x53 => if x53 = true then (some false) else (fletchlaw21_ScriptKeeps.l0 k x0 x1 x5 x6 x7 (x5.length : Int) 0)
def fletchlaw21_ScriptKeeps.l0 : Nat → List (S36) → ByteArray → List (S36) → ByteArray → Int → Int → Int → Option (Bool)
  | 0, _, _, _, _, _, _, _ => none
  | k + 1, x0, x1, x5, x6, x7, x55, x56 => if x56 < x55 then (if 0 ≤ x56 then (if x56 < (x5.length : Int) then (fletchlaw21_ScriptKeeps.l0 k x0 x1 (x5.set (x56 : Int).toNat (⟨0, 0, 0, 0, 0⟩ : S36)) x6 x7 x55 (wrap64 (x56 + 1))) else (none)) else (none)) else ((script_Text.f x0).bind fun bt336 => ((script_Parse.f x1).bind fun bt338 => ((script_Parse.f x1).bind fun bt343 => ((some (([] : List (S36)) : List (S36))).bind fun y348 => (if y348.length + bt343.1.length < 3518437208883 then (fletchlaw21_ScriptKeeps.l1 k x6 x7 bt336.1 bt336.2 bt338.1 bt343.1 (y348 ++ bt343.1) (bt338.1.length : Int) 0) else (none))))))
def fletchlaw21_ScriptKeeps.l1 : Nat → ByteArray → Int → ByteArray → Int → List (S36) → List (S36) → List (S36) → Int → Int → Option (Bool)
  | 0, _, _, _, _, _, _, _, _, _ => none
  | k + 1, x6, x7, x9, x10, x11, x14, x17, x85, x86 => if x86 < x85 then (if 0 ≤ x86 then (if x86 < (x11.length : Int) then (fletchlaw21_ScriptKeeps.l1 k x6 x7 x9 x10 (x11.set (x86 : Int).toNat (⟨9, 0, 0, 0, 0⟩ : S36)) x14 x17 x85 (wrap64 (x86 + 1))) else (none)) else (none)) else ((some (([(⟨0, 0, 0, 0, 0⟩ : S36), (⟨0, 0, 0, 0, 0⟩ : S36)] : List (S36)) : List (S36))).bind fun y355 => (if x11.length + y355.length < 3518437208883 then (if x6.toList = x9.toList then (if x7 = x10 then (if ((x11 ++ y355).length : Int) ≥ 2 then ((fletchlaw21_sameSteps.f k x14 x17).bind fun t361 => (some t361)) else (some false)) else (some false)) else (some false)) else (none)))
end
def fletchlaw21_ScriptKeeps.f (k : Nat) (l0 : List (S36)) (a1 : ByteArray) : Option (Bool) := (fletchlaw21_wakes.f k).bind fun t313 => (if t313 = true then (if (l0.length : Int) > 8192 then (some true) else ((some (([] : List (S36)) : List (S36))).bind fun y314 => (if y314.length + l0.length < 3518437208883 then ((some (y314 ++ l0 : List (S36))).bind fun y317 => (if y317.length < 3518437208883 then ((some (y317 ++ [(⟨71, 0, 0, 0, 0⟩ : S36)] : List (S36))).bind fun y320 => (if 0 ≤ (l0.length : Int) then (if (l0.length : Int) ≤ (y320.length : Int) then ((script_Text.f (y320.take ((l0.length : Int) : Int).toNat)).bind fun bt327 => ((fletchlaw21_sameSteps.f k (y320.take ((l0.length : Int) : Int).toNat) l0).bind fun t333 => (if t333 = true then (if (l0.length : Int) < (y320.length : Int) then (fletchlaw21_ScriptKeeps.j0 k l0 a1 y320 bt327.1 bt327.2 (((rd_T36 y320 (l0.length : Int)).f0) != 71)) else (none)) else (fletchlaw21_ScriptKeeps.j0 k l0 a1 y320 bt327.1 bt327.2 true)))) else (none)) else (none))) else (none))) else (none)))) else (some false))
theorem fletchlaw21_ScriptKeeps.mono_l : ∀ k, (∀ y0 y1 y2 y3 y4 y5, LeO (fletchlaw21_ScriptKeeps.j0 k y0 y1 y2 y3 y4 y5) (fletchlaw21_ScriptKeeps.j0 (k + 1) y0 y1 y2 y3 y4 y5)) ∧ (∀ y0 y1 y2 y3 y4 y5 y6, LeO (fletchlaw21_ScriptKeeps.l0 k y0 y1 y2 y3 y4 y5 y6) (fletchlaw21_ScriptKeeps.l0 (k + 1) y0 y1 y2 y3 y4 y5 y6)) ∧ (∀ y0 y1 y2 y3 y4 y5 y6 y7 y8, LeO (fletchlaw21_ScriptKeeps.l1 k y0 y1 y2 y3 y4 y5 y6 y7 y8) (fletchlaw21_ScriptKeeps.l1 (k + 1) y0 y1 y2 y3 y4 y5 y6 y7 y8))
  | 0 => ⟨fun _ _ _ _ _ _ r h => by simp [fletchlaw21_ScriptKeeps.j0] at h, fun _ _ _ _ _ _ _ r h => by simp [fletchlaw21_ScriptKeeps.l0] at h, fun _ _ _ _ _ _ _ _ _ r h => by simp [fletchlaw21_ScriptKeeps.l1] at h⟩
  | k + 1 => by
    obtain ⟨ih0, ih1, ih2⟩ := fletchlaw21_ScriptKeeps.mono_l k
    refine ⟨?_, ?_, ?_⟩
    · intro y0 y1 y2 y3 y4 y5
      unfold fletchlaw21_ScriptKeeps.j0
      repeat' first
      | (with_reducible exact ih0 _ _ _ _ _ _)
      | (with_reducible exact ih1 _ _ _ _ _ _ _)
      | (with_reducible exact ih2 _ _ _ _ _ _ _ _ _)
      | (with_reducible exact fletchlaw21_sameSteps.mono _ _ _)
      | (with_reducible exact fletchlaw21_wakes.mono _)
      | (with_reducible exact LeO.refl _)
      | (with_reducible exact LeO.none _)
      | (with_reducible refine LeO.ite ?_ ?_)
      | (with_reducible refine LeO.bind ?_ (fun _ => ?_))
      | exact ih0 _ _ _ _ _ _
      | exact ih1 _ _ _ _ _ _ _
      | exact ih2 _ _ _ _ _ _ _ _ _
      | exact fletchlaw21_sameSteps.mono _ _ _
      | exact fletchlaw21_wakes.mono _
      | exact LeO.none _
      | refine LeO.ite ?_ ?_
      | refine LeO.bind ?_ (fun _ => ?_)
    · intro y0 y1 y2 y3 y4 y5 y6
      unfold fletchlaw21_ScriptKeeps.l0
      repeat' first
      | (with_reducible exact ih0 _ _ _ _ _ _)
      | (with_reducible exact ih1 _ _ _ _ _ _ _)
      | (with_reducible exact ih2 _ _ _ _ _ _ _ _ _)
      | (with_reducible exact fletchlaw21_sameSteps.mono _ _ _)
      | (with_reducible exact fletchlaw21_wakes.mono _)
      | (with_reducible exact LeO.refl _)
      | (with_reducible exact LeO.none _)
      | (with_reducible refine LeO.ite ?_ ?_)
      | (with_reducible refine LeO.bind ?_ (fun _ => ?_))
      | exact ih0 _ _ _ _ _ _
      | exact ih1 _ _ _ _ _ _ _
      | exact ih2 _ _ _ _ _ _ _ _ _
      | exact fletchlaw21_sameSteps.mono _ _ _
      | exact fletchlaw21_wakes.mono _
      | exact LeO.none _
      | refine LeO.ite ?_ ?_
      | refine LeO.bind ?_ (fun _ => ?_)
    · intro y0 y1 y2 y3 y4 y5 y6 y7 y8
      unfold fletchlaw21_ScriptKeeps.l1
      repeat' first
      | (with_reducible exact ih0 _ _ _ _ _ _)
      | (with_reducible exact ih1 _ _ _ _ _ _ _)
      | (with_reducible exact ih2 _ _ _ _ _ _ _ _ _)
      | (with_reducible exact fletchlaw21_sameSteps.mono _ _ _)
      | (with_reducible exact fletchlaw21_wakes.mono _)
      | (with_reducible exact LeO.refl _)
      | (with_reducible exact LeO.none _)
      | (with_reducible refine LeO.ite ?_ ?_)
      | (with_reducible refine LeO.bind ?_ (fun _ => ?_))
      | exact ih0 _ _ _ _ _ _
      | exact ih1 _ _ _ _ _ _ _
      | exact ih2 _ _ _ _ _ _ _ _ _
      | exact fletchlaw21_sameSteps.mono _ _ _
      | exact fletchlaw21_wakes.mono _
      | exact LeO.none _
      | refine LeO.ite ?_ ?_
      | refine LeO.bind ?_ (fun _ => ?_)
theorem fletchlaw21_ScriptKeeps.mono : ∀ a0 a1 k, LeO (fletchlaw21_ScriptKeeps.f k a0 a1) (fletchlaw21_ScriptKeeps.f (k + 1) a0 a1) := by
  intro a0 a1 k
  obtain ⟨ih0, ih1, ih2⟩ := fletchlaw21_ScriptKeeps.mono_l k
  unfold fletchlaw21_ScriptKeeps.f
  repeat' first
      | (with_reducible exact ih0 _ _ _ _ _ _)
      | (with_reducible exact ih1 _ _ _ _ _ _ _)
      | (with_reducible exact ih2 _ _ _ _ _ _ _ _ _)
      | (with_reducible exact fletchlaw21_sameSteps.mono _ _ _)
      | (with_reducible exact fletchlaw21_wakes.mono _)
      | (with_reducible exact LeO.refl _)
      | (with_reducible exact LeO.none _)
      | (with_reducible refine LeO.ite ?_ ?_)
      | (with_reducible refine LeO.bind ?_ (fun _ => ?_))
      | exact ih0 _ _ _ _ _ _
      | exact ih1 _ _ _ _ _ _ _
      | exact ih2 _ _ _ _ _ _ _ _ _
      | exact fletchlaw21_sameSteps.mono _ _ _
      | exact fletchlaw21_wakes.mono _
      | exact LeO.none _
      | refine LeO.ite ?_ ?_
      | refine LeO.bind ?_ (fun _ => ?_)
set_option maxHeartbeats 8000000 in
set_option maxRecDepth 100000 in
theorem fletchlaw21_ScriptKeeps.calls (k : Nat) (A0 : Option Addr) (c0 : Nat) (l0 : List (S36)) (a1 : ByteArray) (r : Bool) (w : World) (hG_ : Glob w) (hr0 : Kd.C k36 w A0 l0.length l0) (hc0 : l0.length ≤ c0) (h : fletchlaw21_ScriptKeeps.f k l0 a1 = some r) :
    Calls Tryd.prog 7 #[.slice A0 l0.length c0, .string a1] w fun e w' => e = .returned (.bool r) ∧ Below w.heap.size w w' := by
  have HG_ := Aside0.mk hG_
  clear hG_
  have hu36 := Tryd.underlying36
  have HR0 := Aside0.mk hr0
  have HC0 := Aside0.mk hc0
  clear hr0 hc0
  have HB := Aside0.mk (Below.refl w.heap.size w)
  have H : ((fletchlaw21_wakes.f k).bind fun t313 => (if t313 = true then (if (l0.length : Int) > 8192 then (some true) else ((some (([] : List (S36)) : List (S36))).bind fun y314 => (if y314.length + l0.length < 3518437208883 then ((some (y314 ++ l0 : List (S36))).bind fun y317 => (if y317.length < 3518437208883 then ((some (y317 ++ [(⟨71, 0, 0, 0, 0⟩ : S36)] : List (S36))).bind fun y320 => (if 0 ≤ (l0.length : Int) then (if (l0.length : Int) ≤ (y320.length : Int) then ((script_Text.f (y320.take ((l0.length : Int) : Int).toNat)).bind fun bt327 => ((fletchlaw21_sameSteps.f k (y320.take ((l0.length : Int) : Int).toNat) l0).bind fun t333 => (if t333 = true then (if (l0.length : Int) < (y320.length : Int) then (fletchlaw21_ScriptKeeps.j0 k l0 a1 y320 bt327.1 bt327.2 (((rd_T36 y320 (l0.length : Int)).f0) != 71)) else (none)) else (fletchlaw21_ScriptKeeps.j0 k l0 a1 y320 bt327.1 bt327.2 true)))) else (none)) else (none))) else (none))) else (none)))) else (some false))) = some r := h
  clear h
  replace H := Option.bind_eq_some_iff.mp H
  obtain ⟨t313, A30, H⟩ := H
  replace H : (if t313 = true then (if (l0.length : Int) > 8192 then (some true) else ((some (([] : List (S36)) : List (S36))).bind fun y314 => (if y314.length + l0.length < 3518437208883 then ((some (y314 ++ l0 : List (S36))).bind fun y317 => (if y317.length < 3518437208883 then ((some (y317 ++ [(⟨71, 0, 0, 0, 0⟩ : S36)] : List (S36))).bind fun y320 => (if 0 ≤ (l0.length : Int) then (if (l0.length : Int) ≤ (y320.length : Int) then ((script_Text.f (y320.take ((l0.length : Int) : Int).toNat)).bind fun bt327 => ((fletchlaw21_sameSteps.f k (y320.take ((l0.length : Int) : Int).toNat) l0).bind fun t333 => (if t333 = true then (if (l0.length : Int) < (y320.length : Int) then (fletchlaw21_ScriptKeeps.j0 k l0 a1 y320 bt327.1 bt327.2 (((rd_T36 y320 (l0.length : Int)).f0) != 71)) else (none)) else (fletchlaw21_ScriptKeeps.j0 k l0 a1 y320 bt327.1 bt327.2 true)))) else (none)) else (none))) else (none))) else (none)))) else (some false)) = some r := H
  have A3 := Aside0.mk A30
  clear A30
  by_cases c4 : t313 = true
  · subst c4
    have H1 : (if (l0.length : Int) > 8192 then (some true) else ((some (([] : List (S36)) : List (S36))).bind fun y314 => (if y314.length + l0.length < 3518437208883 then ((some (y314 ++ l0 : List (S36))).bind fun y317 => (if y317.length < 3518437208883 then ((some (y317 ++ [(⟨71, 0, 0, 0, 0⟩ : S36)] : List (S36))).bind fun y320 => (if 0 ≤ (l0.length : Int) then (if (l0.length : Int) ≤ (y320.length : Int) then ((script_Text.f (y320.take ((l0.length : Int) : Int).toNat)).bind fun bt327 => ((fletchlaw21_sameSteps.f k (y320.take ((l0.length : Int) : Int).toNat) l0).bind fun t333 => (if t333 = true then (if (l0.length : Int) < (y320.length : Int) then (fletchlaw21_ScriptKeeps.j0 k l0 a1 y320 bt327.1 bt327.2 (((rd_T36 y320 (l0.length : Int)).f0) != 71)) else (none)) else (fletchlaw21_ScriptKeeps.j0 k l0 a1 y320 bt327.1 bt327.2 true)))) else (none)) else (none))) else (none))) else (none)))) = some r := by rw [if_pos rfl] at H; exact H
    clear H
    have H := H1
    clear H1
    by_cases c5 : (l0.length : Int) > 8192
    · rw [if_pos c5] at H
      have c5b0 : decide (8192 < (l0.length : Int)) = true := decide_eq_true c5
      have c5b1 : decide (8192 < l0.length) = true := decide_eq_true (by omega)
      clear c5
      obtain rfl := Option.some.inj H
      go_enter Tryd.func7, Tryd.ntmps7
      go_wp2_with (first | ((with_reducible refine gate_callee (f := 9) rfl ?_); refine goesL_ (some 19) rfl rfl Tryd.func9 (by kernel_rfl) rfl #[] rfl (by (try simp only [List.map_toArray, List.map_cons, List.map_nil]); first | done | rfl | (simp only [List.length_drop, List.length_take]; rfl)) ?_; (with_reducible refine (fletchlaw21_wakes.calls k  true _ ?side1 A3.out).mono ?_); (case side1 => repeat (first | (with_reducible exact HG_.out) | (with_reducible apply Glob.drewN) | (with_reducible apply Glob.drew) | (with_reducible apply Glob.alloc) | exact Glob.below HG_.out (by repeat (first | (with_reducible first | exact HB.out | apply below_alloc | apply pw_below_drewN | apply below_drew1) | exact HB.out)) | exact HG_.out)); rintro e w6 ⟨rfl, hb⟩; refine ⟨_, rfl, ?_⟩; have n0_ := Aside0.mk (below_step (by repeat (first | (with_reducible first | exact HB.out | apply below_alloc | apply pw_below_drewN | apply below_drew1) | exact HB.out)) hb); clear HB; have HB := n0_; clear n0_; (try clear hb); (try clear hb2); (try clear hk); (try clear hi)))
      go_ret
      exact ⟨by first | rfl | (simp [errW_none, errW_some] <;> rfl) | (simp [*, errW_none, errW_some] <;> rfl), by repeat (first | (with_reducible first | exact HB.out | apply below_alloc | apply pw_below_drewN | apply below_drew1) | exact HB.out)⟩
    · rw [if_neg c5] at H
      have c5b0 : decide (8192 < (l0.length : Int)) = false := decide_eq_false c5
      have c5b1 : decide (8192 < l0.length) = false := decide_eq_false (by omega)
      clear c5
      obtain ⟨y314, hy314⟩ : ∃ y_ : List (S36), y_ = (([] : List (S36))) := ⟨_, rfl⟩
      replace H : (if y314.length + l0.length < 3518437208883 then ((some (y314 ++ l0 : List (S36))).bind fun y317 => (if y317.length < 3518437208883 then ((some (y317 ++ [(⟨71, 0, 0, 0, 0⟩ : S36)] : List (S36))).bind fun y320 => (if 0 ≤ (l0.length : Int) then (if (l0.length : Int) ≤ (y320.length : Int) then ((script_Text.f (y320.take ((l0.length : Int) : Int).toNat)).bind fun bt327 => ((fletchlaw21_sameSteps.f k (y320.take ((l0.length : Int) : Int).toNat) l0).bind fun t333 => (if t333 = true then (if (l0.length : Int) < (y320.length : Int) then (fletchlaw21_ScriptKeeps.j0 k l0 a1 y320 bt327.1 bt327.2 (((rd_T36 y320 (l0.length : Int)).f0) != 71)) else (none)) else (fletchlaw21_ScriptKeeps.j0 k l0 a1 y320 bt327.1 bt327.2 true)))) else (none)) else (none))) else (none))) else (none)) = some r := by first | (rw [hy314]; with_reducible exact H) | (have H2_ := (Option.bind_some _ _).symm.trans H; rw [hy314]; with_reducible exact H2_) | (have H2_ := (Option.bind_some _ _).symm.trans H; with_reducible exact H2_) | with_reducible exact H | (rw [hy314]; exact H) | exact H
      have Ny314 := Aside0.mk hy314
      clear hy314
      by_cases c7 : y314.length + l0.length < 3518437208883
      · rw [if_pos c7] at H
        have LMc7 := Aside0.mk c7
        clear c7
        obtain ⟨y317, hy317⟩ : ∃ y_ : List (S36), y_ = (y314 ++ l0) := ⟨_, rfl⟩
        replace H : (if y317.length < 3518437208883 then ((some (y317 ++ [(⟨71, 0, 0, 0, 0⟩ : S36)] : List (S36))).bind fun y320 => (if 0 ≤ (l0.length : Int) then (if (l0.length : Int) ≤ (y320.length : Int) then ((script_Text.f (y320.take ((l0.length : Int) : Int).toNat)).bind fun bt327 => ((fletchlaw21_sameSteps.f k (y320.take ((l0.length : Int) : Int).toNat) l0).bind fun t333 => (if t333 = true then (if (l0.length : Int) < (y320.length : Int) then (fletchlaw21_ScriptKeeps.j0 k l0 a1 y320 bt327.1 bt327.2 (((rd_T36 y320 (l0.length : Int)).f0) != 71)) else (none)) else (fletchlaw21_ScriptKeeps.j0 k l0 a1 y320 bt327.1 bt327.2 true)))) else (none)) else (none))) else (none)) = some r := by first | (rw [hy317]; with_reducible exact H) | (have H2_ := (Option.bind_some _ _).symm.trans H; rw [hy317]; with_reducible exact H2_) | (have H2_ := (Option.bind_some _ _).symm.trans H; with_reducible exact H2_) | with_reducible exact H | (rw [hy317]; exact H) | exact H
        have Ny317 := Aside0.mk hy317
        clear hy317
        by_cases c8 : y317.length < 3518437208883
        · rw [if_pos c8] at H
          have LMc8 := Aside0.mk c8
          clear c8
          obtain ⟨y320, hy320⟩ : ∃ y_ : List (S36), y_ = (y317 ++ [(⟨71, 0, 0, 0, 0⟩ : S36)]) := ⟨_, rfl⟩
          replace H : (if 0 ≤ (l0.length : Int) then (if (l0.length : Int) ≤ (y320.length : Int) then ((script_Text.f (y320.take ((l0.length : Int) : Int).toNat)).bind fun bt327 => ((fletchlaw21_sameSteps.f k (y320.take ((l0.length : Int) : Int).toNat) l0).bind fun t333 => (if t333 = true then (if (l0.length : Int) < (y320.length : Int) then (fletchlaw21_ScriptKeeps.j0 k l0 a1 y320 bt327.1 bt327.2 (((rd_T36 y320 (l0.length : Int)).f0) != 71)) else (none)) else (fletchlaw21_ScriptKeeps.j0 k l0 a1 y320 bt327.1 bt327.2 true)))) else (none)) else (none)) = some r := by first | (rw [hy320]; with_reducible exact H) | (have H2_ := (Option.bind_some _ _).symm.trans H; rw [hy320]; with_reducible exact H2_) | (have H2_ := (Option.bind_some _ _).symm.trans H; with_reducible exact H2_) | with_reducible exact H | (rw [hy320]; exact H) | exact H
          have Ny320 := Aside0.mk hy320
          clear hy320
          by_cases c9 : 0 ≤ (l0.length : Int)
          · rw [if_pos c9] at H
            have c9b0 := eq_true c9
            have c9b1 : decide (0 ≤ (l0.length : Int)) = true := decide_eq_true c9
            clear c9
            by_cases c10 : (l0.length : Int) ≤ (y320.length : Int)
            · rw [if_pos c10] at H
              have c10b0 := eq_true c10
              have c10b1 : decide ((l0.length : Int) ≤ (y320.length : Int)) = true := decide_eq_true c10
              clear c10
              obtain ⟨y323, hy323⟩ : ∃ y_ : List (S36), y_ = (y320.take ((l0.length : Int) : Int).toNat) := ⟨_, rfl⟩
              replace H : ((script_Text.f y323).bind fun bt327 => ((fletchlaw21_sameSteps.f k (y320.take ((l0.length : Int) : Int).toNat) l0).bind fun t333 => (if t333 = true then (if (l0.length : Int) < (y320.length : Int) then (fletchlaw21_ScriptKeeps.j0 k l0 a1 y320 bt327.1 bt327.2 (((rd_T36 y320 (l0.length : Int)).f0) != 71)) else (none)) else (fletchlaw21_ScriptKeeps.j0 k l0 a1 y320 bt327.1 bt327.2 true)))) = some r := by first | (rw [hy323]; with_reducible exact H) | (have H2_ := (Option.bind_some _ _).symm.trans H; rw [hy323]; with_reducible exact H2_) | (have H2_ := (Option.bind_some _ _).symm.trans H; with_reducible exact H2_) | with_reducible exact H | (rw [hy323]; exact H) | exact H
              have Ny323 := Aside0.mk hy323
              clear hy323
              replace H := Option.bind_eq_some_iff.mp H
              obtain ⟨⟨t327, t328⟩, A110, H⟩ := H
              replace H : ((fletchlaw21_sameSteps.f k (y320.take ((l0.length : Int) : Int).toNat) l0).bind fun t333 => (if t333 = true then (if (l0.length : Int) < (y320.length : Int) then (fletchlaw21_ScriptKeeps.j0 k l0 a1 y320 t327 t328 (((rd_T36 y320 (l0.length : Int)).f0) != 71)) else (none)) else (fletchlaw21_ScriptKeeps.j0 k l0 a1 y320 t327 t328 true))) = some r := H
              have A11 := Aside0.mk A110
              clear A110
              have HC12 := Aside0.mk H
              clear H
              go_enter Tryd.func7, Tryd.ntmps7
              go_upto_region 7 with (first | ((with_reducible refine gate_callee (f := 9) rfl ?_); refine goesL_ (some 19) rfl rfl Tryd.func9 (by kernel_rfl) rfl #[] rfl (by (try simp only [List.map_toArray, List.map_cons, List.map_nil]); first | done | rfl | (simp only [List.length_drop, List.length_take]; rfl)) ?_; (with_reducible refine (fletchlaw21_wakes.calls k  true _ ?side1 A3.out).mono ?_); (case side1 => repeat (first | (with_reducible exact HG_.out) | (with_reducible apply Glob.drewN) | (with_reducible apply Glob.drew) | (with_reducible apply Glob.alloc) | exact Glob.below HG_.out (by repeat (first | (with_reducible first | exact HB.out | apply below_alloc | apply pw_below_drewN | apply below_drew1) | exact HB.out)) | exact HG_.out)); rintro e w13 ⟨rfl, hb⟩; refine ⟨_, rfl, ?_⟩; have n0_ := Aside0.mk (below_step (by repeat (first | (with_reducible first | exact HB.out | apply below_alloc | apply pw_below_drewN | apply below_drew1) | exact HB.out)) hb); clear HB; have HB := n0_; clear n0_; (try clear hb); (try clear hb2); (try clear hk); (try clear hi)) | ((with_reducible refine gate_dst (N := 24) rfl ?_); (try (refine gate_guard (by rfl) ?_; dsimp only)); refine Kd.R_lit k36 _ 36 ?hg (N := 24) ?hd (xs := ([] : List (S36))) (inner := []) (ok := fun _ => True) (okp := fun _ => True) ?hr ?hp (fun _ hk => hk) trivial (Below.refl _ _) (Nat.le_refl _) (by simp) ?_; (case hd => rfl); (case hg => rfl); (case hr => first | (go_simp; done) | (go_simp; rfl)); (case hp => exact (Reps.none _ _)); intro v315 w14 ho15 hb hg_ hnew_; clear hg_ hnew_; (first | rw [← Ny314.out] at ho15 | (simp only [Int.reduceToNat] at ho15; rw [← Ny314.out] at ho15)); have n0_ := Aside0.mk (Kd.R_lower ho15 (below_size (by repeat (first | (with_reducible first | exact HB.out | apply below_alloc | apply pw_below_drewN | apply below_drew1) | exact HB.out)))); have n1_ := Aside0.mk (below_step (by repeat (first | (with_reducible first | exact HB.out | apply below_alloc | apply pw_below_drewN | apply below_drew1) | exact HB.out)) hb); clear HB; have HO316 := n0_; have HB := n1_; clear n0_ n1_; clear hb ho15) | ((with_reducible refine gate_builtin (b := .append) (xs := #[.tmp 24, .tmp 25]) rfl ?_); (try (refine gate_guard (by rfl) ?_; dsimp only)); at_builtin; refine Kd.R_append_rows k36 (w0 := w) w.heap.size rfl (.tmp 24) (.tmp 25) 23 36 (.agg #[(.int .i64 0), (.int .i64 0), (.int .i64 0), (.int .i64 0), (.int .i64 0)]) 40 rfl Tryd.underlying23 info36 rfl (by decide) (by omega) v315 y314 l0 _ _ _ (fun _ => True) (fun _ => False) rfl rfl ?aO ?aR (fun _ _ h => h) (fun _ h => h.elim) ?aF ?aB ?aS ?aL ?_; (case aR => repeat (first | exact (Kd.C_below HR0.out HB.out) | (with_reducible refine Kd.C_alloc ?_ _) | (with_reducible refine Kd.C_drewN ?_ _) | (with_reducible refine Kd.C_drew ?_))); (case aB => exact (by repeat (first | (with_reducible first | exact HB.out | apply below_alloc | apply pw_below_drewN | apply below_drew1) | exact HB.out))); (case aF => exact (fun _ _ => trivial)); (case aO => exact (by (with_reducible repeat (first | apply Kd.R_alloc | apply Kd.R_drewN | apply Kd.R_drew)); exact HO316.out)); (case aS => exact (below_size (by repeat (first | (with_reducible first | exact HB.out | apply below_alloc | apply pw_below_drewN | apply below_drew1) | exact HB.out)))); (case aL => have := LMc7.out; omega); intro v318 w16 ho hb hg hat; rw [← Ny317.out] at ho; have n0_ := Aside0.mk (hb); have n1_ := Aside0.mk (ho); clear HB; clear HO316; have HB := n0_; have HO319 := n1_; clear n0_ n1_; clear ho hb hg hat) | ((with_reducible refine gate_builtin (b := .append) (xs := #[.tmp 26, .tmp 28]) rfl ?_); (try (refine gate_guard (by rfl) ?_; dsimp only)); at_builtin; refine Kd.R_append k36 (w0 := w) w.heap.size rfl (.tmp 26) (.tmp 28) 23 36 (.agg #[(.int .i64 0), (.int .i64 0), (.int .i64 0), (.int .i64 0), (.int .i64 0)]) 40 rfl Tryd.underlying23 info36 rfl (by decide) (by omega) v318 y317 (⟨71, 0, 0, 0, 0⟩ : S36) [.int .i64 71, .int .i64 0, .int .i64 0, .int .i64 0, .int .i64 0] (fun _ => True) (fun _ => False) rfl rfl ?aP (fun _ hk => hk.elim) ?aF ?aO ?aB ?aS ?aL ?_; (case aP => exact k36_mkM _ _ _ (⟨71, 0, 0, 0, 0⟩ : S36)); (case aB => exact (by repeat (first | (with_reducible first | exact HB.out | apply below_alloc | apply pw_below_drewN | apply below_drew1) | exact HB.out))); (case aF => exact (fun _ _ => trivial)); (case aO => exact (by (with_reducible repeat (first | apply Kd.R_alloc | apply Kd.R_drewN | apply Kd.R_drew)); exact HO319.out)); (case aS => exact (below_size (by repeat (first | (with_reducible first | exact HB.out | apply below_alloc | apply pw_below_drewN | apply below_drew1) | exact HB.out)))); (case aL => have := LMc8.out; omega); intro v321 w17 ho hb hg hat; rw [← Ny320.out] at ho; have n0_ := Aside0.mk (hb); have n1_ := Aside0.mk (ho); clear HB; clear HO319; have HB := n0_; have HO322 := n1_; clear n0_ n1_; clear ho hb hg hat; obtain ⟨Ao19, co19, eo19⟩ := Kd.R_slice HO322.out; subst eo19; have q18 : ((l0.length : Int) : Int) ≤ ((y320.length : Int) : Int) := of_decide_eq_true (by first | (with_reducible assumption) | assumption); obtain ⟨i018, hi018, _, hsz18, _⟩ := info_parts info36; have hroom18 : y320.length ≤ co19 := (Kd.R_reads' HO322.out).2.1; have hC18 : Kd.C k36 _ Ao19 y320.length y320 := (Kd.R_reads' HO322.out).2.2; have hcut18 := cut_to (P := Tryd.prog) 23 36 .i64 Tryd.underlying23 hi018 Ao19 y320.length co19 (l0.length : Int) (of_decide_eq_true (by first | (with_reducible assumption) | assumption)) q18 hroom18; have hr18 := Kd.C_take (m := ((l0.length : Int) : Int).toNat) hC18 (by omega); have hy18 : y323.length = ((l0.length : Int) : Int).toNat := (by rw [Ny323.out, List.length_take]; omega); rw [← Ny323.out] at hr18; rw [← hy18] at hcut18; have HR326 := Aside0.mk hr18; have HC326 := Aside0.mk (show y323.length ≤ co19 from by omega); clear hr18 hC18 hroom18 hi018 hsz18; have KY18 := Aside0.mk hy18; clear hy18; have KL18 := Aside0.mk (show ((l0.length : Int) : Int).toNat ≤ y320.length from by omega); replace q18 := eq_true q18) | ((with_reducible refine gate_callee (f := 13) rfl ?_); refine goesL_ (some 35) rfl rfl Tryd.func13 (by kernel_rfl) rfl #[.slice Ao19 y323.length co19] rfl (by (try simp only [List.map_toArray, List.map_cons, List.map_nil]); first | done | rfl | (simp only [List.length_drop, List.length_take]; rfl)) ?_; (with_reducible refine (script_Text.calls _ _ y323 t327 t328 _ ?side1 ?side2 ?side3 A11.out).mono ?_); (case side1 => repeat (first | (with_reducible exact HG_.out) | (with_reducible apply Glob.drewN) | (with_reducible apply Glob.drew) | (with_reducible apply Glob.alloc) | exact Glob.below HG_.out (by repeat (first | (with_reducible first | exact HB.out | apply below_alloc | apply pw_below_drewN | apply below_drew1) | exact HB.out)) | exact HG_.out)); (case side2 => repeat (first | exact (by repeat (first | (with_reducible exact HR326.out) | (with_reducible refine Kd.C_alloc ?_ _) | (with_reducible refine Kd.C_drewN ?_ _) | (with_reducible refine Kd.C_drew ?_) | exact HR326.out)) | (with_reducible refine Kd.C_alloc ?_ _) | (with_reducible refine Kd.C_drewN ?_ _) | (with_reducible refine Kd.C_drew ?_))); (case side3 => exact HC326.out); rintro e w20 ⟨rfl, hb⟩; refine ⟨_, rfl, ?_⟩; have n0_ := Aside0.mk (Kd.R_below (by (with_reducible repeat (first | apply Kd.R_alloc | apply Kd.R_drewN | apply Kd.R_drew)); exact HO322.out) hb); have n1_ := Aside0.mk (Kd.C_below (by repeat (first | (with_reducible exact HR326.out) | (with_reducible refine Kd.C_alloc ?_ _) | (with_reducible refine Kd.C_drewN ?_ _) | (with_reducible refine Kd.C_drew ?_) | exact HR326.out)) hb); have n2_ := Aside0.mk (below_step (by repeat (first | (with_reducible first | exact HB.out | apply below_alloc | apply pw_below_drewN | apply below_drew1) | exact HB.out)) hb); clear HO322; clear HR326; clear HB; have HO322 := n0_; have HR326 := n1_; have HB := n2_; clear n0_ n1_ n2_; (try clear hb); (try clear hb2); (try clear hk); (try clear hi)))
              (try simp only [Act.put, List.setIfInBounds_toArray, List.set_cons_zero, List.set_cons_succ])
              go_cut [53] (fun v53 wc => ∃ (kq : Nat) (x53_11 : Bool), v53 = .bool x53_11 ∧ Aside0 (fletchlaw21_ScriptKeeps.j0 kq l0 a1 y320 t327 t328 x53_11 = some r) ∧ Aside0 (kq ≤ k) ∧ Aside0 (Kd.R k36 36 wc w.heap.size (fun _ => True) (.slice Ao19 y320.length co19) y320) ∧ Aside0 (Kd.C k36 wc Ao19 y323.length y323) ∧ Aside0 (Below w.heap.size w wc))
              case first =>
                have H := HC12.out
                clear HC12
                have c21b0 := eq_true (of_decide_eq_true (by first | (with_reducible assumption) | assumption) : 0 ≤ (l0.length : Int))
                have c22b0 := eq_true (of_decide_eq_true (by first | (with_reducible assumption) | assumption) : (l0.length : Int) ≤ (y320.length : Int))
                obtain ⟨y329, hy329⟩ : ∃ y_ : List (S36), y_ = (y320.take ((l0.length : Int) : Int).toNat) := ⟨_, rfl⟩
                replace H : ((fletchlaw21_sameSteps.f k y329 l0).bind fun t333 => (if t333 = true then (if (l0.length : Int) < (y320.length : Int) then (fletchlaw21_ScriptKeeps.j0 k l0 a1 y320 t327 t328 (((rd_T36 y320 (l0.length : Int)).f0) != 71)) else (none)) else (fletchlaw21_ScriptKeeps.j0 k l0 a1 y320 t327 t328 true))) = some r := by first | (rw [hy329]; with_reducible exact H) | (have H2_ := (Option.bind_some _ _).symm.trans H; rw [hy329]; with_reducible exact H2_) | (have H2_ := (Option.bind_some _ _).symm.trans H; with_reducible exact H2_) | with_reducible exact H | (rw [hy329]; exact H) | exact H
                have Ny329 := Aside0.mk hy329
                clear hy329
                obtain rfl : y329 = y323 := Ny329.out.trans Ny323.out.symm
                replace H := Option.bind_eq_some_iff.mp H
                obtain ⟨t333, A230, H⟩ := H
                replace H : (if t333 = true then (if (l0.length : Int) < (y320.length : Int) then (fletchlaw21_ScriptKeeps.j0 k l0 a1 y320 t327 t328 (((rd_T36 y320 (l0.length : Int)).f0) != 71)) else (none)) else (fletchlaw21_ScriptKeeps.j0 k l0 a1 y320 t327 t328 true)) = some r := H
                have A23 := Aside0.mk A230
                clear A230
                by_cases c24 : t333 = true
                · subst c24
                  have H1 : (if (l0.length : Int) < (y320.length : Int) then (fletchlaw21_ScriptKeeps.j0 k l0 a1 y320 t327 t328 (((rd_T36 y320 (l0.length : Int)).f0) != 71)) else (none)) = some r := by rw [if_pos rfl] at H; exact H
                  clear H
                  have H := H1
                  clear H1
                  by_cases c25 : (l0.length : Int) < (y320.length : Int)
                  · rw [if_pos c25] at H
                    have c25b0 : decide ((l0.length : Int) < (y320.length : Int)) = true := decide_eq_true c25
                    have c25b1 : decide (l0.length < y320.length) = true := decide_eq_true (Int.ofNat_lt.mp c25)
                    clear c25
                    (first | rw [c25b0] | (simp only [i64_w, i32_w]; rw [c25b0]) | skip)
                    have H' := Aside0.mk H
                    clear H
                    have q26 : ((l0.length : Int) : Int) ≤ ((y320.length : Int) : Int) := of_decide_eq_true (by first | (with_reducible assumption) | assumption)
                    obtain ⟨i026, hi026, _, hsz26, _⟩ := info_parts info36
                    have hroom26 : y320.length ≤ co19 := (Kd.R_reads' HO322.out).2.1
                    have hC26 : Kd.C k36 _ Ao19 y320.length y320 := (Kd.R_reads' HO322.out).2.2
                    have hcut26 := cut_to (P := Tryd.prog) 23 36 .i64 Tryd.underlying23 hi026 Ao19 y320.length co19 (l0.length : Int) (of_decide_eq_true (by first | (with_reducible assumption) | assumption)) q26 hroom26
                    have hr26 := Kd.C_take (m := ((l0.length : Int) : Int).toNat) hC26 (by omega)
                    have hy26 : y329.length = ((l0.length : Int) : Int).toNat := (by rw [Ny329.out, List.length_take]; omega)
                    rw [← Ny329.out] at hr26
                    rw [← hy26] at hcut26
                    have HR332 := Aside0.mk hr26
                    have HC332 := Aside0.mk (show y329.length ≤ co19 from by omega)
                    clear hr26 hC26 hroom26 hi026 hsz26
                    have KY26 := Aside0.mk hy26
                    clear hy26
                    have KL26 := Aside0.mk (show ((l0.length : Int) : Int).toNat ≤ y320.length from by omega)
                    replace q26 := eq_true q26
                    go_wp2_with (first | ((with_reducible refine gate_callee (f := 12) rfl ?_); refine goesL_ (some 43) rfl rfl Tryd.func12 (by kernel_rfl) rfl #[.slice Ao19 y329.length co19, .slice A0 l0.length c0] rfl (by (try simp only [List.map_toArray, List.map_cons, List.map_nil]); first | done | rfl | (simp only [List.length_drop, List.length_take]; rfl)) ?_; (with_reducible refine (fletchlaw21_sameSteps.calls k _ _ y329 _ _ l0 true _ ?side1 ?side2 ?side3 ?side4 A23.out).mono ?_); (case side1 => repeat (first | exact (by repeat (first | (with_reducible exact HR332.out) | (with_reducible refine Kd.C_alloc ?_ _) | (with_reducible refine Kd.C_drewN ?_ _) | (with_reducible refine Kd.C_drew ?_) | exact HR332.out)) | (with_reducible refine Kd.C_alloc ?_ _) | (with_reducible refine Kd.C_drewN ?_ _) | (with_reducible refine Kd.C_drew ?_))); (case side2 => exact HC332.out); (case side3 => repeat (first | exact (Kd.C_below HR0.out HB.out) | (with_reducible refine Kd.C_alloc ?_ _) | (with_reducible refine Kd.C_drewN ?_ _) | (with_reducible refine Kd.C_drew ?_))); (case side4 => exact HC0.out); rintro e w' ⟨rfl, ⟨nd, rfl⟩⟩; refine ⟨_, rfl, ?_⟩; have p334 : 0 ≤ ((l0.length : Int) : Int) := of_decide_eq_true (by first | (with_reducible assumption) | assumption); have q334 : (l0.length : Int) < (y320.length : Int) := of_decide_eq_true (by first | (with_reducible assumption) | assumption); obtain ⟨ad334, e334, hx334_0, hx334_1, hx334_2, hx334_3, hx334_4⟩ := at_T36 (Kd.R_reads' HO322.out).2.2 (l0.length : Int) p334 q334; cases e334; (try simp only [Go.IntWalk.toNatUp] at hx334_0); (try simp only [Go.IntWalk.toNatUp] at hx334_1); (try simp only [Go.IntWalk.toNatUp] at hx334_2); (try simp only [Go.IntWalk.toNatUp] at hx334_3); (try simp only [Go.IntWalk.toNatUp] at hx334_4); replace p334 := eq_true p334; replace q334 := eq_true q334))
                    go_meet
                    case rel => exact ⟨_, ((((rd_T36 y320 (l0.length : Int)).f0) != 71)), (by first | rfl | (simp; done) | (simp [*]; done)), H', ⟨by first | omega | exact Nat.le_refl _⟩, ⟨by (with_reducible repeat (first | apply Kd.R_alloc | apply Kd.R_drewN | apply Kd.R_drew)); exact HO322.out⟩, ⟨by repeat (first | (with_reducible exact HR326.out) | (with_reducible refine Kd.C_alloc ?_ _) | (with_reducible refine Kd.C_drewN ?_ _) | (with_reducible refine Kd.C_drew ?_) | exact HR326.out)⟩, ⟨by repeat (first | (with_reducible first | exact HB.out | apply below_alloc | apply pw_below_drewN | apply below_drew1) | exact HB.out)⟩⟩
                  · rw [if_neg c25] at H
                    exact absurd H (by simp)
                · replace c24 := Bool.eq_false_iff.mpr c24
                  subst c24
                  have H1 : (fletchlaw21_ScriptKeeps.j0 k l0 a1 y320 t327 t328 true) = some r := by rw [if_neg (show ¬ (false = true) by decide)] at H; exact H
                  clear H
                  have H := H1
                  clear H1
                  have H' := Aside0.mk H
                  clear H
                  have q27 : ((l0.length : Int) : Int) ≤ ((y320.length : Int) : Int) := of_decide_eq_true (by first | (with_reducible assumption) | assumption)
                  obtain ⟨i027, hi027, _, hsz27, _⟩ := info_parts info36
                  have hroom27 : y320.length ≤ co19 := (Kd.R_reads' HO322.out).2.1
                  have hC27 : Kd.C k36 _ Ao19 y320.length y320 := (Kd.R_reads' HO322.out).2.2
                  have hcut27 := cut_to (P := Tryd.prog) 23 36 .i64 Tryd.underlying23 hi027 Ao19 y320.length co19 (l0.length : Int) (of_decide_eq_true (by first | (with_reducible assumption) | assumption)) q27 hroom27
                  have hr27 := Kd.C_take (m := ((l0.length : Int) : Int).toNat) hC27 (by omega)
                  have hy27 : y329.length = ((l0.length : Int) : Int).toNat := (by rw [Ny329.out, List.length_take]; omega)
                  rw [← Ny329.out] at hr27
                  rw [← hy27] at hcut27
                  have HR332 := Aside0.mk hr27
                  have HC332 := Aside0.mk (show y329.length ≤ co19 from by omega)
                  clear hr27 hC27 hroom27 hi027 hsz27
                  have KY27 := Aside0.mk hy27
                  clear hy27
                  have KL27 := Aside0.mk (show ((l0.length : Int) : Int).toNat ≤ y320.length from by omega)
                  replace q27 := eq_true q27
                  go_wp2_with (first | ((with_reducible refine gate_callee (f := 12) rfl ?_); refine goesL_ (some 43) rfl rfl Tryd.func12 (by kernel_rfl) rfl #[.slice Ao19 y329.length co19, .slice A0 l0.length c0] rfl (by (try simp only [List.map_toArray, List.map_cons, List.map_nil]); first | done | rfl | (simp only [List.length_drop, List.length_take]; rfl)) ?_; (with_reducible refine (fletchlaw21_sameSteps.calls k _ _ y329 _ _ l0 false _ ?side1 ?side2 ?side3 ?side4 A23.out).mono ?_); (case side1 => repeat (first | exact (by repeat (first | (with_reducible exact HR332.out) | (with_reducible refine Kd.C_alloc ?_ _) | (with_reducible refine Kd.C_drewN ?_ _) | (with_reducible refine Kd.C_drew ?_) | exact HR332.out)) | (with_reducible refine Kd.C_alloc ?_ _) | (with_reducible refine Kd.C_drewN ?_ _) | (with_reducible refine Kd.C_drew ?_))); (case side2 => exact HC332.out); (case side3 => repeat (first | exact (Kd.C_below HR0.out HB.out) | (with_reducible refine Kd.C_alloc ?_ _) | (with_reducible refine Kd.C_drewN ?_ _) | (with_reducible refine Kd.C_drew ?_))); (case side4 => exact HC0.out); rintro e w' ⟨rfl, ⟨nd, rfl⟩⟩; refine ⟨_, rfl, ?_⟩))
                  go_meet
                  case rel => exact ⟨_, (true), (by first | rfl | (simp; done) | (simp [*]; done)), H', ⟨by first | omega | exact Nat.le_refl _⟩, ⟨by (with_reducible repeat (first | apply Kd.R_alloc | apply Kd.R_drewN | apply Kd.R_drew)); exact HO322.out⟩, ⟨by repeat (first | (with_reducible exact HR326.out) | (with_reducible refine Kd.C_alloc ?_ _) | (with_reducible refine Kd.C_drewN ?_ _) | (with_reducible refine Kd.C_drew ?_) | exact HR326.out)⟩, ⟨by repeat (first | (with_reducible first | exact HB.out | apply below_alloc | apply pw_below_drewN | apply below_drew1) | exact HB.out)⟩⟩
              case rest =>
                clear HC12
                try clear c1
                try clear q1
                try clear c2
                try clear p2
                try clear q2
                try clear p3
                try clear q3
                try clear hx3
                try clear c4
                try clear c5
                try clear c5b0
                try clear c5b1
                try clear c7
                try clear c8
                try clear c9
                try clear c9b0
                try clear c9b1
                try clear c10
                try clear c10b0
                try clear c10b1
                try clear c12
                try clear c13
                try clear q18
                try clear c21
                try clear c21b0
                try clear c22
                try clear c22b0
                try clear c24
                try clear c25
                try clear c25b0
                try clear c25b1
                try clear q26
                try clear q27
                try clear hx334_0
                try clear hx334_1
                try clear hx334_2
                try clear hx334_3
                try clear hx334_4
                try clear p334
                try clear q18
                try clear q26
                try clear q27
                try clear q334
                obtain ⟨kq, x53_11, rfl, HA, HJ11, HO_5, HR326, HB⟩ := hcut
                cases kq with
                | zero => exact absurd HA.out (by simp [fletchlaw21_ScriptKeeps.j0])
                | succ kj11 =>
                  have H := HA.out
                  clear HA
                  simp only [fletchlaw21_ScriptKeeps.j0] at H
                  by_cases c28 : x53_11 = true
                  · subst c28
                    have H1 : (some false) = some r := by rw [if_pos rfl] at H; exact H
                    clear H
                    have H := H1
                    clear H1
                    obtain rfl := Option.some.inj H
                    go_wp2
                    go_ret
                    exact ⟨by first | rfl | (simp [errW_none, errW_some] <;> rfl) | (simp [*, errW_none, errW_some] <;> rfl), by repeat (first | (with_reducible first | exact HB.out | apply below_alloc | apply pw_below_drewN | apply below_drew1) | exact HB.out)⟩
                  · replace c28 := Bool.eq_false_iff.mpr c28
                    subst c28
                    have H1 : (fletchlaw21_ScriptKeeps.l0 kj11 l0 a1 y320 t327 t328 (y320.length : Int) 0) = some r := by rw [if_neg (show ¬ (false = true) by decide)] at H; exact H
                    clear H
                    have H := H1
                    clear H1
                    have H' := Aside0.mk H
                    clear H
                    go_wp2
                    go_loopg [56] kj11 (fun kq v56 w' => ∃ (x5_2 : List (S36)) (x56_2 : Int), v56 = .int .i64 x56_2 ∧ Aside0 (fletchlaw21_ScriptKeeps.l0 kq l0 a1 x5_2 t327 t328 (y320.length : Int) x56_2 = some r) ∧ Aside0 (kq ≤ kj11) ∧ Aside0 (Kd.R k36 36 w' w.heap.size (fun _ => True) (.slice Ao19 y320.length co19) x5_2) ∧ Aside0 (Below w.heap.size w w'))
                    case atStart => exact ⟨(y320), (0), (by first | rfl | (simp; done) | (simp [*]; done)), H', ⟨Nat.le_refl _⟩, ⟨by (with_reducible repeat (first | apply Kd.R_alloc | apply Kd.R_drewN | apply Kd.R_drew)); exact HO_5.out⟩, ⟨by repeat (first | (with_reducible first | exact HB.out | apply below_alloc | apply pw_below_drewN | apply below_drew1) | exact HB.out)⟩⟩
                    case round =>
                      clear H'
                      try clear c1
                      try clear q1
                      try clear c2
                      try clear p2
                      try clear q2
                      try clear p3
                      try clear q3
                      try clear hx3
                      try clear c4
                      try clear c5
                      try clear c5b0
                      try clear c5b1
                      try clear c7
                      try clear c8
                      try clear c9
                      try clear c9b0
                      try clear c9b1
                      try clear c10
                      try clear c10b0
                      try clear c10b1
                      try clear c12
                      try clear c13
                      try clear q18
                      try clear c21
                      try clear c21b0
                      try clear c22
                      try clear c22b0
                      try clear c24
                      try clear c25
                      try clear c25b0
                      try clear c25b1
                      try clear q26
                      try clear q27
                      try clear c28
                      try clear hx334_0
                      try clear hx334_1
                      try clear hx334_2
                      try clear hx334_3
                      try clear hx334_4
                      try clear p2
                      try clear p3
                      try clear p334
                      try clear q1
                      try clear q18
                      try clear q2
                      try clear q26
                      try clear q27
                      try clear q3
                      try clear q334
                      obtain ⟨x5_2, x56_2, rfl, HA, HK2, HO_5, HB⟩ := hrel
                      have hl5_2 := (Kd.R_reads' HO_5.out).1
                      rw [hl5_2] at HO_5
                      (try simp only [hl5_2])
                      cases gk with
                      | zero => exact absurd HA.out (by simp [fletchlaw21_ScriptKeeps.l0])
                      | succ k2 =>
                        have H := HA.out
                        clear HA
                        simp only [fletchlaw21_ScriptKeeps.l0] at H
                        by_cases c29 : x56_2 < (y320.length : Int)
                        · rw [if_pos c29] at H
                          have c29b0 : decide (x56_2 < (y320.length : Int)) = true := decide_eq_true c29
                          clear c29
                          by_cases c30 : 0 ≤ x56_2
                          · rw [if_pos c30] at H
                            have c30b0 : decide (0 ≤ x56_2) = true := decide_eq_true c30
                            clear c30
                            by_cases c31 : x56_2 < (x5_2.length : Int)
                            · rw [if_pos c31] at H
                              have c31b0 : decide (x56_2 < (x5_2.length : Int)) = true := decide_eq_true c31
                              clear c31
                              obtain ⟨y335, hy335⟩ : ∃ y_ : List (S36), y_ = (x5_2.set (x56_2 : Int).toNat (⟨0, 0, 0, 0, 0⟩ : S36)) := ⟨_, rfl⟩
                              replace H : (fletchlaw21_ScriptKeeps.l0 k2 l0 a1 y335 t327 t328 (y320.length : Int) (wrap64 (x56_2 + 1))) = some r := by first | (rw [hy335]; with_reducible exact H) | (have H2_ := (Option.bind_some _ _).symm.trans H; rw [hy335]; with_reducible exact H2_) | (have H2_ := (Option.bind_some _ _).symm.trans H; with_reducible exact H2_) | with_reducible exact H | (rw [hy335]; exact H) | exact H
                              have Ny335 := Aside0.mk hy335
                              clear hy335
                              have H' := Aside0.mk H
                              clear H
                              have p32 : 0 ≤ (x56_2 : Int) := of_decide_eq_true (by first | (with_reducible assumption) | assumption)
                              have q32 : (x56_2 : Int) < ((x5_2.length : Int) : Int) := of_decide_eq_true (by first | (with_reducible assumption) | assumption)
                              obtain ⟨go32, co32, eo32, gb32, gl32, cl32, HG32⟩ := Kd.R_form HO_5.out (by omega)
                              (first | cases eo32 | (injection eo32 with ea_ en_ ec_; (first | subst ea_ | (injection ea_ with ea_; subst ea_)); subst ec_; clear en_))
                              have GB32 := Aside0.mk gb32
                              have GG32 := Aside0.mk HG32
                              clear gb32 gl32 HG32
                              obtain ⟨ce32, hcl32, hM32, hcc32, hfr32⟩ := Kd.R_elem HO_5.out z36 (x56_2 : Int) p32 q32
                              obtain rfl := k36_openM hM32
                              have hx32_0 : wr.cell? ⟨go32, (x56_2 : Int).toNat * 5, none⟩ = some (.int .i64 ((rd_T36 x5_2 x56_2).f0)) := hcc32 0 _ rfl
                              have hx32_1 : wr.cell? ⟨go32, (x56_2 : Int).toNat * 5 + 1, none⟩ = some (.int .i64 ((rd_T36 x5_2 x56_2).f1)) := hcc32 1 _ rfl
                              have hx32_2 : wr.cell? ⟨go32, (x56_2 : Int).toNat * 5 + 2, none⟩ = some (.int .i64 ((rd_T36 x5_2 x56_2).f2)) := hcc32 2 _ rfl
                              have hx32_3 : wr.cell? ⟨go32, (x56_2 : Int).toNat * 5 + 3, none⟩ = some (.int .i64 ((rd_T36 x5_2 x56_2).f3)) := hcc32 3 _ rfl
                              have hx32_4 : wr.cell? ⟨go32, (x56_2 : Int).toNat * 5 + 4, none⟩ = some (.int .i64 ((rd_T36 x5_2 x56_2).f4)) := hcc32 4 _ rfl
                              have hf32_0 : wr.frozen? ⟨go32, (x56_2 : Int).toNat * 5, none⟩ = false := hfr32 0
                              have hf32_1 : wr.frozen? ⟨go32, (x56_2 : Int).toNat * 5 + 1, none⟩ = false := hfr32 1
                              have hf32_2 : wr.frozen? ⟨go32, (x56_2 : Int).toNat * 5 + 2, none⟩ = false := hfr32 2
                              have hf32_3 : wr.frozen? ⟨go32, (x56_2 : Int).toNat * 5 + 3, none⟩ = false := hfr32 3
                              have hf32_4 : wr.frozen? ⟨go32, (x56_2 : Int).toNat * 5 + 4, none⟩ = false := hfr32 4
                              clear hcl32 hcc32 hfr32 hM32
                              replace p32 := eq_true p32
                              replace q32 := eq_true q32
                              have HX33 := Aside0.mk (show Kd.R k36 36 wr w.heap.size (fun _ => True) (.slice (some ⟨go32, 0, none⟩) x5_2.length co19) x5_2 from (by (with_reducible repeat (first | apply Kd.R_alloc | apply Kd.R_drewN | apply Kd.R_drew)); exact HO_5.out))
                              obtain ⟨ce33, hcl33, hM33, hcc33, hfr33⟩ := Kd.R_elem HX33.out z36 (x56_2 : Int) (of_decide_eq_true (by first | (with_reducible assumption) | assumption)) (by have h_ : (x56_2 : Int) < ((x5_2.length : Int) : Int) := of_decide_eq_true (by first | (with_reducible assumption) | assumption); first | exact h_ | (have e_ := (Kd.R_reads' HO_5.out).1; omega) | simpa using h_)
                              obtain rfl := k36_openM hM33
                              have HP33 := Kd.R_seg HX33.out (x56_2 : Int) (of_decide_eq_true (by first | (with_reducible assumption) | assumption)) (by have h_ : (x56_2 : Int) < ((x5_2.length : Int) : Int) := of_decide_eq_true (by first | (with_reducible assumption) | assumption); first | exact h_ | (have e_ := (Kd.R_reads' HO_5.out).1; omega) | simpa using h_) (seg := [.int .i64 0, .int .i64 0, .int .i64 0, .int .i64 0, .int .i64 0]) (j := 0) hcl33 hcc33 (show 5 ≤ 5 from by decide) (x' := (⟨0, 0, 0, 0, 0⟩ : S36)) (k36_mkM _ _ _ (⟨0, 0, 0, 0, 0⟩ : S36) ) (fun _ hk => hk)
                              have hx33_0 := hcc33 0 _ rfl
                              (try simp only [show (k36).sz = 5 from rfl, Nat.mul_one, Nat.add_zero] at hx33_0)
                              have hf33_0 := hfr33 0
                              (try simp only [show (k36).sz = 5 from rfl, Nat.mul_one, Nat.add_zero] at hf33_0)
                              have hx33_1 := hcc33 1 _ rfl
                              (try simp only [show (k36).sz = 5 from rfl, Nat.mul_one, Nat.add_zero] at hx33_1)
                              have hf33_1 := hfr33 1
                              (try simp only [show (k36).sz = 5 from rfl, Nat.mul_one, Nat.add_zero] at hf33_1)
                              have hx33_2 := hcc33 2 _ rfl
                              (try simp only [show (k36).sz = 5 from rfl, Nat.mul_one, Nat.add_zero] at hx33_2)
                              have hf33_2 := hfr33 2
                              (try simp only [show (k36).sz = 5 from rfl, Nat.mul_one, Nat.add_zero] at hf33_2)
                              have hx33_3 := hcc33 3 _ rfl
                              (try simp only [show (k36).sz = 5 from rfl, Nat.mul_one, Nat.add_zero] at hx33_3)
                              have hf33_3 := hfr33 3
                              (try simp only [show (k36).sz = 5 from rfl, Nat.mul_one, Nat.add_zero] at hf33_3)
                              have hx33_4 := hcc33 4 _ rfl
                              (try simp only [show (k36).sz = 5 from rfl, Nat.mul_one, Nat.add_zero] at hx33_4)
                              have hf33_4 := hfr33 4
                              (try simp only [show (k36).sz = 5 from rfl, Nat.mul_one, Nat.add_zero] at hf33_4)
                              clear hcl33 hcc33 hfr33 hM33
                              go_wp2_with (first | ((with_reducible refine gate_store (t := 36) (p := 62) rfl ?_); refine store_event (t := 36) (p := 62) (v := ?vo_w34) (w1 := (((((wr.setCell ⟨go32, (x56_2 : Int).toNat * 5, none⟩ (.int .i64 0)).setCell ⟨go32, (x56_2 : Int).toNat * 5 + 1, none⟩ (.int .i64 0)).setCell ⟨go32, (x56_2 : Int).toNat * 5 + 2, none⟩ (.int .i64 0)).setCell ⟨go32, (x56_2 : Int).toNat * 5 + 3, none⟩ (.int .i64 0)).setCell ⟨go32, (x56_2 : Int).toNat * 5 + 4, none⟩ (.int .i64 0))) ?hg ?ho ?hn ?hr ?_; (case ho => rfl); (case hg => rfl); (case hn => rfl); (case hr => first | (go_simp; done) | (go_simp; rfl)); intro w34 hw; have hg : wr.grownBy w34 (some go32) := (by rw [hw]; exact HP33.2); have hp_ : Kd.R k36 36 w34 w.heap.size (fun _ => True) (.slice (some ⟨go32, 0, none⟩) x5_2.length co19) y335 := (by rw [hw, Ny335.out]; exact HP33.1); clear HP33; have n0_ := Aside0.mk (hp_); have n1_ := Aside0.mk ((by rw [hw]; exact below_set (below_set (below_set (below_set (below_set (HB.out) GB32.out) GB32.out) GB32.out) GB32.out) GB32.out : Below w.heap.size w w34)); clear HO_5; clear HB; have HO_5 := n0_; have HB := n1_; clear n0_ n1_; clear hg hw hp_))
                              (try simp only [← hl5_2])
                              go_roundg k2
                              case measure => have := HJ11.out; have := HK2.out; omega
                              case rel => exact ⟨(y335), (wrap64 (x56_2 + 1)), (by first | rfl | (simp; done) | (simp [*]; done)), H', ⟨by have := HJ11.out; have := HK2.out; omega⟩, ⟨by (try simp only [hl5_2]); (with_reducible repeat (first | apply Kd.R_alloc | apply Kd.R_drewN | apply Kd.R_drew)); exact HO_5.out⟩, ⟨by repeat (first | (with_reducible first | exact HB.out | apply below_alloc | apply pw_below_drewN | apply below_drew1) | exact HB.out)⟩⟩
                            · rw [if_neg c31] at H
                              exact absurd H (by simp)
                          · rw [if_neg c30] at H
                            exact absurd H (by simp)
                        · rw [if_neg c29] at H
                          have c29b0 : decide (x56_2 < (y320.length : Int)) = false := decide_eq_false c29
                          have c29c : decide (x56_2 < (x5_2.length : Int)) = false := (by rw [← hl5_2]; exact c29b0)
                          clear c29
                          replace H := Option.bind_eq_some_iff.mp H
                          obtain ⟨⟨t336, t337⟩, A350, H⟩ := H
                          replace H : ((script_Parse.f a1).bind fun bt338 => ((script_Parse.f a1).bind fun bt343 => ((some (([] : List (S36)) : List (S36))).bind fun y348 => (if y348.length + bt343.1.length < 3518437208883 then (fletchlaw21_ScriptKeeps.l1 k2 t327 t328 t336 t337 bt338.1 bt343.1 (y348 ++ bt343.1) (bt338.1.length : Int) 0) else (none))))) = some r := H
                          have A35 := Aside0.mk A350
                          clear A350
                          replace H := Option.bind_eq_some_iff.mp H
                          obtain ⟨⟨t338, t339, t340⟩, A360, H⟩ := H
                          replace H : ((script_Parse.f a1).bind fun bt343 => ((some (([] : List (S36)) : List (S36))).bind fun y348 => (if y348.length + bt343.1.length < 3518437208883 then (fletchlaw21_ScriptKeeps.l1 k2 t327 t328 t336 t337 t338 bt343.1 (y348 ++ bt343.1) (t338.length : Int) 0) else (none)))) = some r := H
                          have A36 := Aside0.mk A360
                          clear A360
                          replace H := Option.bind_eq_some_iff.mp H
                          obtain ⟨⟨t343, t344, t345⟩, A370, H⟩ := H
                          replace H : ((some (([] : List (S36)) : List (S36))).bind fun y348 => (if y348.length + t343.length < 3518437208883 then (fletchlaw21_ScriptKeeps.l1 k2 t327 t328 t336 t337 t338 t343 (y348 ++ t343) (t338.length : Int) 0) else (none))) = some r := H
                          have A37 := Aside0.mk A370
                          clear A370
                          obtain ⟨y348, hy348⟩ : ∃ y_ : List (S36), y_ = (([] : List (S36))) := ⟨_, rfl⟩
                          replace H : (if y348.length + t343.length < 3518437208883 then (fletchlaw21_ScriptKeeps.l1 k2 t327 t328 t336 t337 t338 t343 (y348 ++ t343) (t338.length : Int) 0) else (none)) = some r := by first | (rw [hy348]; with_reducible exact H) | (have H2_ := (Option.bind_some _ _).symm.trans H; rw [hy348]; with_reducible exact H2_) | (have H2_ := (Option.bind_some _ _).symm.trans H; with_reducible exact H2_) | with_reducible exact H | (rw [hy348]; exact H) | exact H
                          have Ny348 := Aside0.mk hy348
                          clear hy348
                          by_cases c38 : y348.length + t343.length < 3518437208883
                          · rw [if_pos c38] at H
                            have LMc38 := Aside0.mk c38
                            clear c38
                            obtain ⟨y351, hy351⟩ : ∃ y_ : List (S36), y_ = (y348 ++ t343) := ⟨_, rfl⟩
                            replace H : (fletchlaw21_ScriptKeeps.l1 k2 t327 t328 t336 t337 t338 t343 y351 (t338.length : Int) 0) = some r := by first | (rw [hy351]; with_reducible exact H) | (have H2_ := (Option.bind_some _ _).symm.trans H; rw [hy351]; with_reducible exact H2_) | (have H2_ := (Option.bind_some _ _).symm.trans H; with_reducible exact H2_) | with_reducible exact H | (rw [hy351]; exact H) | exact H
                            have Ny351 := Aside0.mk hy351
                            clear hy351
                            have H' := Aside0.mk H
                            clear H
                            go_wp2_with (first | ((with_reducible refine gate_callee (f := 13) rfl ?_); refine goesL_ (some 66) rfl rfl Tryd.func13 (by kernel_rfl) rfl #[.slice A0 l0.length c0] rfl (by (try simp only [List.map_toArray, List.map_cons, List.map_nil]); first | done | rfl | (simp only [List.length_drop, List.length_take]; rfl)) ?_; (with_reducible refine (script_Text.calls _ _ l0 t336 t337 _ ?side1 ?side2 ?side3 A35.out).mono ?_); (case side1 => repeat (first | (with_reducible exact HG_.out) | (with_reducible apply Glob.drewN) | (with_reducible apply Glob.drew) | (with_reducible apply Glob.alloc) | exact Glob.below HG_.out (by repeat (first | (with_reducible first | exact HB.out | apply below_alloc | apply pw_below_drewN | apply below_drew1) | exact HB.out)) | exact HG_.out)); (case side2 => repeat (first | exact (Kd.C_below HR0.out HB.out) | (with_reducible refine Kd.C_alloc ?_ _) | (with_reducible refine Kd.C_drewN ?_ _) | (with_reducible refine Kd.C_drew ?_))); (case side3 => exact HC0.out); rintro e w39 ⟨rfl, hb⟩; refine ⟨_, rfl, ?_⟩; have n0_ := Aside0.mk (Kd.R_below (by (with_reducible repeat (first | apply Kd.R_alloc | apply Kd.R_drewN | apply Kd.R_drew)); exact HO_5.out) hb); have n1_ := Aside0.mk (below_step (by repeat (first | (with_reducible first | exact HB.out | apply below_alloc | apply pw_below_drewN | apply below_drew1) | exact HB.out)) hb); clear HO_5; clear HB; have HO_5 := n0_; have HB := n1_; clear n0_ n1_; (try clear hb); (try clear hb2); (try clear hk); (try clear hi)) | ((with_reducible refine gate_callee (f := 10) rfl ?_); refine goesL_ (some 71) rfl rfl Tryd.func10 (by kernel_rfl) rfl #[.string a1] rfl (by (try simp only [List.map_toArray, List.map_cons, List.map_nil]); first | done | rfl | (simp only [List.length_drop, List.length_take]; rfl)) ?_; (with_reducible refine (script_Parse.calls a1 t338 t339 t340 _ A36.out).mono ?_); rintro e w40 ⟨v341, rfl, ho0, hb⟩; refine ⟨_, rfl, ?_⟩; have n0_ := Aside0.mk (Kd.R_elder' (by (with_reducible repeat (first | apply Kd.R_alloc | apply Kd.R_drewN | apply Kd.R_drew)); exact HO_5.out) (Kd.R_base ho0) hb); have n1_ := Aside0.mk (Kd.R_lower (Kd.R_new' ho0 (Kd.R_lt (by (with_reducible repeat (first | apply Kd.R_alloc | apply Kd.R_drewN | apply Kd.R_drew)); exact HO_5.out))) (below_size (by repeat (first | (with_reducible first | exact HB.out | apply below_alloc | apply pw_below_drewN | apply below_drew1) | exact HB.out)))); have n2_ := Aside0.mk (below_step (by repeat (first | (with_reducible first | exact HB.out | apply below_alloc | apply pw_below_drewN | apply below_drew1) | exact HB.out)) hb); clear HO_5; clear HB; have HO_5 := n0_; have HO342 := n1_; have HB := n2_; clear n0_ n1_ n2_; (try clear hb); (try clear hb2); (try clear hk); (try clear hi); (try clear ho0)) | ((with_reducible refine gate_callee (f := 10) rfl ?_); refine goesL_ (some 77) rfl rfl Tryd.func10 (by kernel_rfl) rfl #[.string a1] rfl (by (try simp only [List.map_toArray, List.map_cons, List.map_nil]); first | done | rfl | (simp only [List.length_drop, List.length_take]; rfl)) ?_; (with_reducible refine (script_Parse.calls a1 t343 t344 t345 _ A37.out).mono ?_); rintro e w41 ⟨v346, rfl, ho0, hb⟩; refine ⟨_, rfl, ?_⟩; have n0_ := Aside0.mk (Kd.R_elder' (by (with_reducible repeat (first | apply Kd.R_alloc | apply Kd.R_drewN | apply Kd.R_drew)); exact HO_5.out) (Kd.R_base ho0) hb); have n1_ := Aside0.mk (Kd.R_elder' (by (with_reducible repeat (first | apply Kd.R_alloc | apply Kd.R_drewN | apply Kd.R_drew)); exact HO342.out) (Kd.R_base ho0) hb); have n2_ := Aside0.mk (Kd.R_lower (Kd.R_new' (Kd.R_new' ho0 (Kd.R_lt (by (with_reducible repeat (first | apply Kd.R_alloc | apply Kd.R_drewN | apply Kd.R_drew)); exact HO_5.out))) (Kd.R_lt (by (with_reducible repeat (first | apply Kd.R_alloc | apply Kd.R_drewN | apply Kd.R_drew)); exact HO342.out))) (below_size (by repeat (first | (with_reducible first | exact HB.out | apply below_alloc | apply pw_below_drewN | apply below_drew1) | exact HB.out)))); have n3_ := Aside0.mk (below_step (by repeat (first | (with_reducible first | exact HB.out | apply below_alloc | apply pw_below_drewN | apply below_drew1) | exact HB.out)) hb); clear HO_5; clear HO342; clear HB; have HO_5 := n0_; have HO342 := n1_; have HO347 := n2_; have HB := n3_; clear n0_ n1_ n2_ n3_; (try clear hb); (try clear hb2); (try clear hk); (try clear hi); (try clear ho0)) | ((with_reducible refine gate_dst (N := 81) rfl ?_); (try (refine gate_guard (by rfl) ?_; dsimp only)); refine Kd.R_lit k36 _ 36 ?hg (N := 81) ?hd (xs := ([] : List (S36))) (inner := []) (ok := fun _ => True) (okp := fun _ => True) ?hr ?hp (fun _ hk => hk) trivial (Below.refl _ _) (Nat.le_refl _) (by simp) ?_; (case hd => rfl); (case hg => rfl); (case hr => first | (go_simp; done) | (go_simp; rfl)); (case hp => exact (Reps.none _ _)); intro v349 w42 ho43 hb hg_ hnew_; clear hg_ hnew_; (first | rw [← Ny348.out] at ho43 | (simp only [Int.reduceToNat] at ho43; rw [← Ny348.out] at ho43)); have n0_ := Aside0.mk (Kd.R_elder' (by (with_reducible repeat (first | apply Kd.R_alloc | apply Kd.R_drewN | apply Kd.R_drew)); exact HO_5.out) (Kd.R_base ho43) hb); have n1_ := Aside0.mk (Kd.R_elder' (by (with_reducible repeat (first | apply Kd.R_alloc | apply Kd.R_drewN | apply Kd.R_drew)); exact HO342.out) (Kd.R_base ho43) hb); have n2_ := Aside0.mk (Kd.R_elder' (by (with_reducible repeat (first | apply Kd.R_alloc | apply Kd.R_drewN | apply Kd.R_drew)); exact HO347.out) (Kd.R_base ho43) hb); have n3_ := Aside0.mk (Kd.R_lower (Kd.R_new' (Kd.R_new' (Kd.R_new' ho43 (Kd.R_lt (by (with_reducible repeat (first | apply Kd.R_alloc | apply Kd.R_drewN | apply Kd.R_drew)); exact HO_5.out))) (Kd.R_lt (by (with_reducible repeat (first | apply Kd.R_alloc | apply Kd.R_drewN | apply Kd.R_drew)); exact HO342.out))) (Kd.R_lt (by (with_reducible repeat (first | apply Kd.R_alloc | apply Kd.R_drewN | apply Kd.R_drew)); exact HO347.out))) (below_size (by repeat (first | (with_reducible first | exact HB.out | apply below_alloc | apply pw_below_drewN | apply below_drew1) | exact HB.out)))); have n4_ := Aside0.mk (below_step (by repeat (first | (with_reducible first | exact HB.out | apply below_alloc | apply pw_below_drewN | apply below_drew1) | exact HB.out)) hb); clear HO_5; clear HO342; clear HO347; clear HB; have HO_5 := n0_; have HO342 := n1_; have HO347 := n2_; have HO350 := n3_; have HB := n4_; clear n0_ n1_ n2_ n3_ n4_; clear hb ho43; obtain ⟨Ao45, co45, eo45⟩ := Kd.R_slice HO347.out; subst eo45) | ((with_reducible refine gate_builtin (b := .append) (xs := #[.tmp 81, .tmp 82]) rfl ?_); (try (refine gate_guard (by rfl) ?_; dsimp only)); at_builtin; refine Kd.R_append_rows k36 (w0 := w) w.heap.size rfl (.tmp 81) (.tmp 82) 23 36 (.agg #[(.int .i64 0), (.int .i64 0), (.int .i64 0), (.int .i64 0), (.int .i64 0)]) 40 rfl Tryd.underlying23 info36 rfl (by decide) (by omega) v349 y348 t343 _ _ _ (fun k_ => some k_ ≠ (.slice Ao19 x5_2.length co19 : Value).ownBlock ∧ some k_ ≠ (v341 : Value).ownBlock ∧ some k_ ≠ (.slice Ao45 t343.length co45 : Value).ownBlock) (fun _ => False) rfl rfl ?aO ?aR (fun _ _ h => h) (fun _ h => h.elim) ?aF ?aB ?aS ?aL ?_; (case aR => repeat (first | exact (Kd.R_reads' HO347.out).2.2 | (with_reducible refine Kd.C_alloc ?_ _) | (with_reducible refine Kd.C_drewN ?_ _) | (with_reducible refine Kd.C_drew ?_))); (case aB => exact (by repeat (first | (with_reducible first | exact HB.out | apply below_alloc | apply pw_below_drewN | apply below_drew1) | exact HB.out))); (case aF => exact (fun k_ hk => ⟨Kd.fresh' (Kd.R_lt (by (with_reducible repeat (first | apply Kd.R_alloc | apply Kd.R_drewN | apply Kd.R_drew)); exact HO_5.out)) k_ hk, Kd.fresh' (Kd.R_lt (by (with_reducible repeat (first | apply Kd.R_alloc | apply Kd.R_drewN | apply Kd.R_drew)); exact HO342.out)) k_ hk, Kd.fresh' (Kd.R_lt (by (with_reducible repeat (first | apply Kd.R_alloc | apply Kd.R_drewN | apply Kd.R_drew)); exact HO347.out)) k_ hk⟩)); (case aO => exact (by (with_reducible repeat (first | apply Kd.R_alloc | apply Kd.R_drewN | apply Kd.R_drew)); exact Kd.R_mono HO350.out (fun _ hk => ⟨hk.1.1.2, ⟨hk.1.2, hk.2⟩⟩))); (case aS => exact (below_size (by repeat (first | (with_reducible first | exact HB.out | apply below_alloc | apply pw_below_drewN | apply below_drew1) | exact HB.out)))); (case aL => have := LMc38.out; omega); intro v352 w44 ho hb hg hat; rw [← Ny351.out] at ho; have n0_ := Aside0.mk (Kd.R_after (ok := (fun k_ => some k_ ≠ (v341 : Value).ownBlock ∧ some k_ ≠ (.slice Ao45 t343.length co45 : Value).ownBlock)) (by (with_reducible repeat (first | apply Kd.R_alloc | apply Kd.R_drewN | apply Kd.R_drew)); exact Kd.R_mono HO_5.out (fun _ hk => ⟨⟨hk.1.1.2, hk.1.2⟩, hk.2⟩)) hg hat); have n1_ := Aside0.mk (Kd.R_after (ok := (fun k_ => some k_ ≠ (.slice Ao19 x5_2.length co19 : Value).ownBlock ∧ some k_ ≠ (.slice Ao45 t343.length co45 : Value).ownBlock)) (by (with_reducible repeat (first | apply Kd.R_alloc | apply Kd.R_drewN | apply Kd.R_drew)); exact Kd.R_mono HO342.out (fun _ hk => ⟨⟨hk.1.1.2, hk.1.2⟩, hk.2⟩)) hg hat); have n2_ := Aside0.mk (Kd.R_after (ok := (fun k_ => some k_ ≠ (.slice Ao19 x5_2.length co19 : Value).ownBlock ∧ some k_ ≠ (v341 : Value).ownBlock)) (by (with_reducible repeat (first | apply Kd.R_alloc | apply Kd.R_drewN | apply Kd.R_drew)); exact Kd.R_mono HO347.out (fun _ hk => ⟨⟨hk.1.1.2, hk.1.2⟩, hk.2⟩)) hg hat); have n3_ := Aside0.mk (hb); have n4_ := Aside0.mk (ho); clear HO_5; clear HO342; clear HO347; clear HB; clear HO350; have HO_5 := n0_; have HO342 := n1_; have HO347 := n2_; have HB := n3_; have HO353 := n4_; clear n0_ n1_ n2_ n3_ n4_; clear ho hb hg hat; obtain ⟨Ao46, co46, eo46⟩ := Kd.R_slice HO342.out; subst eo46))
                            go_loopg [86] k2 (fun kq v86 w' => ∃ (x11_3 : List (S36)) (x86_3 : Int), v86 = .int .i64 x86_3 ∧ Aside0 (fletchlaw21_ScriptKeeps.l1 kq t327 t328 t336 t337 x11_3 t343 y351 (t338.length : Int) x86_3 = some r) ∧ Aside0 (kq ≤ k2) ∧ Aside0 (Kd.R k36 36 w' w.heap.size (fun k_ => some k_ ≠ ((.slice Ao45 t343.length co45) : Value).ownBlock ∧ some k_ ≠ (v352 : Value).ownBlock) (.slice Ao46 t338.length co46) x11_3) ∧ Aside0 (Kd.R k36 36 w' w.heap.size (fun k_ => some k_ ≠ ((.slice Ao46 t338.length co46) : Value).ownBlock ∧ some k_ ≠ (v352 : Value).ownBlock) (.slice Ao45 t343.length co45) t343) ∧ Aside0 (Kd.R k36 36 w' w.heap.size (fun k_ => some k_ ≠ ((.slice Ao46 t338.length co46) : Value).ownBlock ∧ some k_ ≠ ((.slice Ao45 t343.length co45) : Value).ownBlock) v352 y351) ∧ Aside0 (Below w.heap.size w w'))
                            case atStart => exact ⟨(t338), (0), (by first | rfl | (simp; done) | (simp [*]; done)), H', ⟨Nat.le_refl _⟩, ⟨by (try simp only [hl5_2]); (with_reducible repeat (first | apply Kd.R_alloc | apply Kd.R_drewN | apply Kd.R_drew)); exact Kd.R_mono HO342.out (fun _ hk => ⟨hk.1.2, hk.2⟩)⟩, ⟨by (try simp only [hl5_2]); (with_reducible repeat (first | apply Kd.R_alloc | apply Kd.R_drewN | apply Kd.R_drew)); exact Kd.R_mono HO347.out (fun _ hk => ⟨hk.1.2, hk.2⟩)⟩, ⟨by (try simp only [hl5_2]); (with_reducible repeat (first | apply Kd.R_alloc | apply Kd.R_drewN | apply Kd.R_drew)); exact Kd.R_mono HO353.out (fun _ hk => ⟨hk.2.1, hk.2.2⟩)⟩, ⟨by repeat (first | (with_reducible first | exact HB.out | apply below_alloc | apply pw_below_drewN | apply below_drew1) | exact HB.out)⟩⟩
                            case round =>
                              clear H'
                              try clear c1
                              try clear q1
                              try clear c2
                              try clear p2
                              try clear q2
                              try clear c3
                              try clear p3
                              try clear q3
                              try clear hx3
                              try clear hf3
                              try clear c4
                              try clear c5
                              try clear c5b0
                              try clear c5b1
                              try clear p6
                              try clear c7
                              try clear c8
                              try clear c9
                              try clear c9b0
                              try clear c9b1
                              try clear c10
                              try clear c10b0
                              try clear c10b1
                              try clear c12
                              try clear c13
                              try clear q18
                              try clear c21
                              try clear c21b0
                              try clear c22
                              try clear c22b0
                              try clear c24
                              try clear c25
                              try clear c25b0
                              try clear c25b1
                              try clear q26
                              try clear q27
                              try clear c28
                              try clear c29
                              try clear c29b0
                              try clear c30
                              try clear c30b0
                              try clear c31
                              try clear c31b0
                              try clear c32
                              try clear p32
                              try clear q32
                              try clear hx32
                              try clear hf32
                              try clear c33
                              try clear p33
                              try clear q33
                              try clear hx33
                              try clear hf33
                              try clear c38
                              try clear hx32_0
                              try clear hx32_1
                              try clear hx32_2
                              try clear hx32_3
                              try clear hx32_4
                              try clear hx334_0
                              try clear hx334_1
                              try clear hx334_2
                              try clear hx334_3
                              try clear hx334_4
                              try clear hx33_0
                              try clear hx33_1
                              try clear hx33_2
                              try clear hx33_3
                              try clear hx33_4
                              try clear p2
                              try clear p3
                              try clear p32
                              try clear p334
                              try clear q1
                              try clear q18
                              try clear q2
                              try clear q26
                              try clear q27
                              try clear q3
                              try clear q32
                              try clear q334
                              obtain ⟨x11_3, x86_3, rfl, HA, HK3, HO_11, HO_14, HO_17, HB⟩ := hrel
                              have hl11_3 := (Kd.R_reads' HO_11.out).1
                              rw [hl11_3] at HO_11
                              (try simp only [hl11_3])
                              (try simp only [hl11_3] at HO_14)
                              (try simp only [hl11_3] at HO_17)
                              cases gk with
                              | zero => exact absurd HA.out (by simp [fletchlaw21_ScriptKeeps.l1])
                              | succ k3 =>
                                have H := HA.out
                                clear HA
                                simp only [fletchlaw21_ScriptKeeps.l1] at H
                                by_cases c47 : x86_3 < (t338.length : Int)
                                · rw [if_pos c47] at H
                                  have c47b0 : decide (x86_3 < (t338.length : Int)) = true := decide_eq_true c47
                                  clear c47
                                  by_cases c48 : 0 ≤ x86_3
                                  · rw [if_pos c48] at H
                                    have c48b0 : decide (0 ≤ x86_3) = true := decide_eq_true c48
                                    clear c48
                                    by_cases c49 : x86_3 < (x11_3.length : Int)
                                    · rw [if_pos c49] at H
                                      have c49b0 : decide (x86_3 < (x11_3.length : Int)) = true := decide_eq_true c49
                                      clear c49
                                      obtain ⟨y354, hy354⟩ : ∃ y_ : List (S36), y_ = (x11_3.set (x86_3 : Int).toNat (⟨9, 0, 0, 0, 0⟩ : S36)) := ⟨_, rfl⟩
                                      replace H : (fletchlaw21_ScriptKeeps.l1 k3 t327 t328 t336 t337 y354 t343 y351 (t338.length : Int) (wrap64 (x86_3 + 1))) = some r := by first | (rw [hy354]; with_reducible exact H) | (have H2_ := (Option.bind_some _ _).symm.trans H; rw [hy354]; with_reducible exact H2_) | (have H2_ := (Option.bind_some _ _).symm.trans H; with_reducible exact H2_) | with_reducible exact H | (rw [hy354]; exact H) | exact H
                                      have Ny354 := Aside0.mk hy354
                                      clear hy354
                                      have H' := Aside0.mk H
                                      clear H
                                      have p50 : 0 ≤ (x86_3 : Int) := of_decide_eq_true (by first | (with_reducible assumption) | assumption)
                                      have q50 : (x86_3 : Int) < ((x11_3.length : Int) : Int) := of_decide_eq_true (by first | (with_reducible assumption) | assumption)
                                      obtain ⟨go50, co50, eo50, gb50, gl50, cl50, HG50⟩ := Kd.R_form HO_11.out (by omega)
                                      (first | cases eo50 | (injection eo50 with ea_ en_ ec_; (first | subst ea_ | (injection ea_ with ea_; subst ea_)); subst ec_; clear en_))
                                      have GB50 := Aside0.mk gb50
                                      have GG50 := Aside0.mk HG50
                                      clear gb50 gl50 HG50
                                      obtain ⟨ce50, hcl50, hM50, hcc50, hfr50⟩ := Kd.R_elem HO_11.out z36 (x86_3 : Int) p50 q50
                                      obtain rfl := k36_openM hM50
                                      have hx50_0 : wr.cell? ⟨go50, (x86_3 : Int).toNat * 5, none⟩ = some (.int .i64 ((rd_T36 x11_3 x86_3).f0)) := hcc50 0 _ rfl
                                      have hx50_1 : wr.cell? ⟨go50, (x86_3 : Int).toNat * 5 + 1, none⟩ = some (.int .i64 ((rd_T36 x11_3 x86_3).f1)) := hcc50 1 _ rfl
                                      have hx50_2 : wr.cell? ⟨go50, (x86_3 : Int).toNat * 5 + 2, none⟩ = some (.int .i64 ((rd_T36 x11_3 x86_3).f2)) := hcc50 2 _ rfl
                                      have hx50_3 : wr.cell? ⟨go50, (x86_3 : Int).toNat * 5 + 3, none⟩ = some (.int .i64 ((rd_T36 x11_3 x86_3).f3)) := hcc50 3 _ rfl
                                      have hx50_4 : wr.cell? ⟨go50, (x86_3 : Int).toNat * 5 + 4, none⟩ = some (.int .i64 ((rd_T36 x11_3 x86_3).f4)) := hcc50 4 _ rfl
                                      have hf50_0 : wr.frozen? ⟨go50, (x86_3 : Int).toNat * 5, none⟩ = false := hfr50 0
                                      have hf50_1 : wr.frozen? ⟨go50, (x86_3 : Int).toNat * 5 + 1, none⟩ = false := hfr50 1
                                      have hf50_2 : wr.frozen? ⟨go50, (x86_3 : Int).toNat * 5 + 2, none⟩ = false := hfr50 2
                                      have hf50_3 : wr.frozen? ⟨go50, (x86_3 : Int).toNat * 5 + 3, none⟩ = false := hfr50 3
                                      have hf50_4 : wr.frozen? ⟨go50, (x86_3 : Int).toNat * 5 + 4, none⟩ = false := hfr50 4
                                      clear hcl50 hcc50 hfr50 hM50
                                      replace p50 := eq_true p50
                                      replace q50 := eq_true q50
                                      have HX51 := Aside0.mk (show Kd.R k36 36 wr w.heap.size (fun k_ => some k_ ≠ (.slice Ao45 t343.length co45 : Value).ownBlock ∧ some k_ ≠ (v352 : Value).ownBlock) (.slice (some ⟨go50, 0, none⟩) x11_3.length co46) x11_3 from (by (with_reducible repeat (first | apply Kd.R_alloc | apply Kd.R_drewN | apply Kd.R_drew)); exact HO_11.out))
                                      obtain ⟨ce51, hcl51, hM51, hcc51, hfr51⟩ := Kd.R_elem HX51.out z36 (x86_3 : Int) (of_decide_eq_true (by first | (with_reducible assumption) | assumption)) (by have h_ : (x86_3 : Int) < ((x11_3.length : Int) : Int) := of_decide_eq_true (by first | (with_reducible assumption) | assumption); first | exact h_ | (have e_ := (Kd.R_reads' HO_11.out).1; omega) | simpa using h_)
                                      obtain rfl := k36_openM hM51
                                      have HP51 := Kd.R_seg HX51.out (x86_3 : Int) (of_decide_eq_true (by first | (with_reducible assumption) | assumption)) (by have h_ : (x86_3 : Int) < ((x11_3.length : Int) : Int) := of_decide_eq_true (by first | (with_reducible assumption) | assumption); first | exact h_ | (have e_ := (Kd.R_reads' HO_11.out).1; omega) | simpa using h_) (seg := [.int .i64 9, .int .i64 0, .int .i64 0, .int .i64 0, .int .i64 0]) (j := 0) hcl51 hcc51 (show 5 ≤ 5 from by decide) (x' := (⟨9, 0, 0, 0, 0⟩ : S36)) (k36_mkM _ _ _ (⟨9, 0, 0, 0, 0⟩ : S36) ) (fun _ hk => hk)
                                      have hx51_0 := hcc51 0 _ rfl
                                      (try simp only [show (k36).sz = 5 from rfl, Nat.mul_one, Nat.add_zero] at hx51_0)
                                      have hf51_0 := hfr51 0
                                      (try simp only [show (k36).sz = 5 from rfl, Nat.mul_one, Nat.add_zero] at hf51_0)
                                      have hx51_1 := hcc51 1 _ rfl
                                      (try simp only [show (k36).sz = 5 from rfl, Nat.mul_one, Nat.add_zero] at hx51_1)
                                      have hf51_1 := hfr51 1
                                      (try simp only [show (k36).sz = 5 from rfl, Nat.mul_one, Nat.add_zero] at hf51_1)
                                      have hx51_2 := hcc51 2 _ rfl
                                      (try simp only [show (k36).sz = 5 from rfl, Nat.mul_one, Nat.add_zero] at hx51_2)
                                      have hf51_2 := hfr51 2
                                      (try simp only [show (k36).sz = 5 from rfl, Nat.mul_one, Nat.add_zero] at hf51_2)
                                      have hx51_3 := hcc51 3 _ rfl
                                      (try simp only [show (k36).sz = 5 from rfl, Nat.mul_one, Nat.add_zero] at hx51_3)
                                      have hf51_3 := hfr51 3
                                      (try simp only [show (k36).sz = 5 from rfl, Nat.mul_one, Nat.add_zero] at hf51_3)
                                      have hx51_4 := hcc51 4 _ rfl
                                      (try simp only [show (k36).sz = 5 from rfl, Nat.mul_one, Nat.add_zero] at hx51_4)
                                      have hf51_4 := hfr51 4
                                      (try simp only [show (k36).sz = 5 from rfl, Nat.mul_one, Nat.add_zero] at hf51_4)
                                      clear hcl51 hcc51 hfr51 hM51
                                      go_wp2_with (first | ((with_reducible refine gate_store (t := 36) (p := 92) rfl ?_); refine store_event (t := 36) (p := 92) (v := ?vo_w52) (w1 := (((((wr.setCell ⟨go50, (x86_3 : Int).toNat * 5, none⟩ (.int .i64 9)).setCell ⟨go50, (x86_3 : Int).toNat * 5 + 1, none⟩ (.int .i64 0)).setCell ⟨go50, (x86_3 : Int).toNat * 5 + 2, none⟩ (.int .i64 0)).setCell ⟨go50, (x86_3 : Int).toNat * 5 + 3, none⟩ (.int .i64 0)).setCell ⟨go50, (x86_3 : Int).toNat * 5 + 4, none⟩ (.int .i64 0))) ?hg ?ho ?hn ?hr ?_; (case ho => rfl); (case hg => rfl); (case hn => rfl); (case hr => first | (go_simp; done) | (go_simp; rfl)); intro w52 hw; have hg : wr.grownBy w52 (some go50) := (by rw [hw]; exact HP51.2); have hp_ : Kd.R k36 36 w52 w.heap.size (fun k_ => some k_ ≠ (.slice Ao45 t343.length co45 : Value).ownBlock ∧ some k_ ≠ (v352 : Value).ownBlock) (.slice (some ⟨go50, 0, none⟩) x11_3.length co46) y354 := (by rw [hw, Ny354.out]; exact HP51.1); clear HP51; have n0_ := Aside0.mk (hp_); have n1_ := Aside0.mk (Kd.R_after (v := (.slice (some ⟨go50, 0, none⟩) x11_3.length co46)) (v1 := (.slice (some ⟨go50, 0, none⟩) x11_3.length co46)) (ok := (fun k_ => some k_ ≠ (v352 : Value).ownBlock)) (by (with_reducible repeat (first | apply Kd.R_alloc | apply Kd.R_drewN | apply Kd.R_drew)); exact Kd.R_mono HO_14.out (fun _ hk => ⟨hk.2, hk.1⟩)) hg (.inl rfl)); have n2_ := Aside0.mk (Kd.R_after (v := (.slice (some ⟨go50, 0, none⟩) x11_3.length co46)) (v1 := (.slice (some ⟨go50, 0, none⟩) x11_3.length co46)) (ok := (fun k_ => some k_ ≠ (.slice Ao45 t343.length co45 : Value).ownBlock)) (by (with_reducible repeat (first | apply Kd.R_alloc | apply Kd.R_drewN | apply Kd.R_drew)); exact Kd.R_mono HO_17.out (fun _ hk => ⟨hk.2, hk.1⟩)) hg (.inl rfl)); have n3_ := Aside0.mk ((by rw [hw]; exact below_set (below_set (below_set (below_set (below_set (HB.out) GB50.out) GB50.out) GB50.out) GB50.out) GB50.out : Below w.heap.size w w52)); clear HO_11; clear HO_14; clear HO_17; clear HB; have HO_11 := n0_; have HO_14 := n1_; have HO_17 := n2_; have HB := n3_; clear n0_ n1_ n2_ n3_; clear hg hw hp_))
                                      (try simp only [← hl11_3])
                                      go_roundg k3
                                      case measure => have := HJ11.out; have := HK2.out; have := HK3.out; omega
                                      case rel => exact ⟨(y354), (wrap64 (x86_3 + 1)), (by first | rfl | (simp; done) | (simp [*]; done)), H', ⟨by have := HJ11.out; have := HK2.out; have := HK3.out; omega⟩, ⟨by (try simp only [hl5_2]); (try simp only [hl11_3]); (with_reducible repeat (first | apply Kd.R_alloc | apply Kd.R_drewN | apply Kd.R_drew)); exact HO_11.out⟩, ⟨by (try simp only [hl5_2]); (try simp only [hl11_3]); (with_reducible repeat (first | apply Kd.R_alloc | apply Kd.R_drewN | apply Kd.R_drew)); exact Kd.R_mono HO_14.out (fun _ hk => ⟨hk.2, hk.1⟩)⟩, ⟨by (try simp only [hl5_2]); (try simp only [hl11_3]); (with_reducible repeat (first | apply Kd.R_alloc | apply Kd.R_drewN | apply Kd.R_drew)); exact Kd.R_mono HO_17.out (fun _ hk => ⟨hk.2, hk.1⟩)⟩, ⟨by repeat (first | (with_reducible first | exact HB.out | apply below_alloc | apply pw_below_drewN | apply below_drew1) | exact HB.out)⟩⟩
                                    · rw [if_neg c49] at H
                                      exact absurd H (by simp)
                                  · rw [if_neg c48] at H
                                    exact absurd H (by simp)
                                · rw [if_neg c47] at H
                                  have c47b0 : decide (x86_3 < (t338.length : Int)) = false := decide_eq_false c47
                                  have c47c : decide (x86_3 < (x11_3.length : Int)) = false := (by rw [← hl11_3]; exact c47b0)
                                  clear c47
                                  obtain ⟨y355, hy355⟩ : ∃ y_ : List (S36), y_ = (([(⟨0, 0, 0, 0, 0⟩ : S36), (⟨0, 0, 0, 0, 0⟩ : S36)] : List (S36))) := ⟨_, rfl⟩
                                  replace H : (if x11_3.length + y355.length < 3518437208883 then (if t327.toList = t336.toList then (if t328 = t337 then (if ((x11_3 ++ y355).length : Int) ≥ 2 then ((fletchlaw21_sameSteps.f k3 t343 y351).bind fun t361 => (some t361)) else (some false)) else (some false)) else (some false)) else (none)) = some r := by first | (rw [hy355]; with_reducible exact H) | (have H2_ := (Option.bind_some _ _).symm.trans H; rw [hy355]; with_reducible exact H2_) | (have H2_ := (Option.bind_some _ _).symm.trans H; with_reducible exact H2_) | with_reducible exact H | (rw [hy355]; exact H) | exact H
                                  have Ny355 := Aside0.mk hy355
                                  clear hy355
                                  by_cases c53 : x11_3.length + y355.length < 3518437208883
                                  · rw [if_pos c53] at H
                                    have LMc53 := Aside0.mk c53
                                    clear c53
                                    obtain ⟨y358, hy358⟩ : ∃ y_ : List (S36), y_ = (x11_3 ++ y355) := ⟨_, rfl⟩
                                    replace H : (if t327.toList = t336.toList then (if t328 = t337 then (if (y358.length : Int) ≥ 2 then ((fletchlaw21_sameSteps.f k3 t343 y351).bind fun t361 => (some t361)) else (some false)) else (some false)) else (some false)) = some r := by first | (rw [hy358]; with_reducible exact H) | (have H2_ := (Option.bind_some _ _).symm.trans H; rw [hy358]; with_reducible exact H2_) | (have H2_ := (Option.bind_some _ _).symm.trans H; with_reducible exact H2_) | with_reducible exact H | (rw [hy358]; exact H) | exact H
                                    have Ny358 := Aside0.mk hy358
                                    clear hy358
                                    by_cases c54 : t327.toList = t336.toList
                                    · rw [if_pos c54] at H
                                      have c54b0 : (t327.toList == t336.toList) = true := beq_iff_eq.mpr c54
                                      have c54b1 : (t327.toList != t336.toList) = false := bne_eq_false_iff_eq.mpr c54
                                      clear c54
                                      by_cases c55 : t328 = t337
                                      · rw [if_pos c55] at H
                                        have c55b0 : (t328 == t337) = true := beq_iff_eq.mpr c55
                                        have c55b1 : (t328 != t337) = false := bne_eq_false_iff_eq.mpr c55
                                        clear c55
                                        by_cases c56 : (y358.length : Int) ≥ 2
                                        · rw [if_pos c56] at H
                                          have c56b0 : decide (2 ≤ (y358.length : Int)) = true := decide_eq_true c56
                                          have c56b1 : decide (2 ≤ y358.length) = true := decide_eq_true (by omega)
                                          clear c56
                                          replace H := Option.bind_eq_some_iff.mp H
                                          obtain ⟨t361, A570, H⟩ := H
                                          replace H : (some t361) = some r := H
                                          have A57 := Aside0.mk A570
                                          clear A570
                                          obtain rfl := Option.some.inj H
                                          go_wp2_with (first | ((with_reducible refine gate_dst (N := 97) rfl ?_); (try (refine gate_guard (by rfl) ?_; dsimp only)); refine Kd.R_lit k36 _ 36 ?hg (N := 97) ?hd (xs := ([(⟨0, 0, 0, 0, 0⟩ : S36), (⟨0, 0, 0, 0, 0⟩ : S36)] : List (S36))) (inner := [.int .i64 0, .int .i64 0, .int .i64 0, .int .i64 0, .int .i64 0, .int .i64 0, .int .i64 0, .int .i64 0, .int .i64 0, .int .i64 0]) (ok := fun _ => True) (okp := fun _ => True) ?hr ?hp (fun _ hk => hk) trivial (Below.refl _ _) (Nat.le_refl _) (by simp) ?_; (case hd => rfl); (case hg => rfl); (case hr => first | (go_simp; done) | (go_simp; rfl)); (case hp => exact (Reps.c5 (show Kd.M k36 _ _ _ (⟨0, 0, 0, 0, 0⟩ : S36) [.int .i64 0, .int .i64 0, .int .i64 0, .int .i64 0, .int .i64 0] from (k36_mkM _ _ _ (⟨0, 0, 0, 0, 0⟩ : S36) )) (Reps.c5 (show Kd.M k36 _ _ _ (⟨0, 0, 0, 0, 0⟩ : S36) [.int .i64 0, .int .i64 0, .int .i64 0, .int .i64 0, .int .i64 0] from (k36_mkM _ _ _ (⟨0, 0, 0, 0, 0⟩ : S36) )) (Reps.none _ _)))); intro v356 w58 ho59 hb hg_ hnew_; clear hg_ hnew_; (first | rw [← Ny355.out] at ho59 | (simp only [Int.reduceToNat] at ho59; rw [← Ny355.out] at ho59)); have n0_ := Aside0.mk (Kd.R_elder' (by (with_reducible repeat (first | apply Kd.R_alloc | apply Kd.R_drewN | apply Kd.R_drew)); exact HO_11.out) (Kd.R_base ho59) hb); have n1_ := Aside0.mk (Kd.R_elder' (by (with_reducible repeat (first | apply Kd.R_alloc | apply Kd.R_drewN | apply Kd.R_drew)); exact HO_14.out) (Kd.R_base ho59) hb); have n2_ := Aside0.mk (Kd.R_elder' (by (with_reducible repeat (first | apply Kd.R_alloc | apply Kd.R_drewN | apply Kd.R_drew)); exact HO_17.out) (Kd.R_base ho59) hb); have n3_ := Aside0.mk (Kd.R_lower (Kd.R_new' (Kd.R_new' (Kd.R_new' ho59 (Kd.R_lt (by (with_reducible repeat (first | apply Kd.R_alloc | apply Kd.R_drewN | apply Kd.R_drew)); exact HO_11.out))) (Kd.R_lt (by (with_reducible repeat (first | apply Kd.R_alloc | apply Kd.R_drewN | apply Kd.R_drew)); exact HO_14.out))) (Kd.R_lt (by (with_reducible repeat (first | apply Kd.R_alloc | apply Kd.R_drewN | apply Kd.R_drew)); exact HO_17.out))) (below_size (by repeat (first | (with_reducible first | exact HB.out | apply below_alloc | apply pw_below_drewN | apply below_drew1) | exact HB.out)))); have n4_ := Aside0.mk (below_step (by repeat (first | (with_reducible first | exact HB.out | apply below_alloc | apply pw_below_drewN | apply below_drew1) | exact HB.out)) hb); clear HO_11; clear HO_14; clear HO_17; clear HB; have HO_11 := n0_; have HO_14 := n1_; have HO_17 := n2_; have HO357 := n3_; have HB := n4_; clear n0_ n1_ n2_ n3_ n4_; clear hb ho59; obtain ⟨Ao61, co61, eo61⟩ := Kd.R_slice HO357.out; subst eo61) | ((with_reducible refine gate_builtin (b := .append) (xs := #[.tmp 94, .tmp 97]) rfl ?_); (try (refine gate_guard (by rfl) ?_; dsimp only)); at_builtin; refine Kd.R_append_rows k36 (w0 := w) w.heap.size rfl (.tmp 94) (.tmp 97) 23 36 (.agg #[(.int .i64 0), (.int .i64 0), (.int .i64 0), (.int .i64 0), (.int .i64 0)]) 40 rfl Tryd.underlying23 info36 rfl (by decide) (by omega) (.slice Ao46 x11_3.length co46) x11_3 y355 _ _ _ (fun k_ => some k_ ≠ (.slice Ao45 t343.length co45 : Value).ownBlock ∧ some k_ ≠ (v352 : Value).ownBlock ∧ some k_ ≠ (.slice Ao61 y355.length co61 : Value).ownBlock) (fun _ => False) rfl rfl ?aO ?aR (fun _ _ h => h) (fun _ h => h.elim) ?aF ?aB ?aS ?aL ?_; (case aR => repeat (first | exact (Kd.R_reads' HO357.out).2.2 | (with_reducible refine Kd.C_alloc ?_ _) | (with_reducible refine Kd.C_drewN ?_ _) | (with_reducible refine Kd.C_drew ?_))); (case aB => exact (by repeat (first | (with_reducible first | exact HB.out | apply below_alloc | apply pw_below_drewN | apply below_drew1) | exact HB.out))); (case aF => exact (fun k_ hk => ⟨Kd.fresh' (Kd.R_lt (by (with_reducible repeat (first | apply Kd.R_alloc | apply Kd.R_drewN | apply Kd.R_drew)); exact HO_14.out)) k_ hk, Kd.fresh' (Kd.R_lt (by (with_reducible repeat (first | apply Kd.R_alloc | apply Kd.R_drewN | apply Kd.R_drew)); exact HO_17.out)) k_ hk, Kd.fresh' (Kd.R_lt (by (with_reducible repeat (first | apply Kd.R_alloc | apply Kd.R_drewN | apply Kd.R_drew)); exact HO357.out)) k_ hk⟩)); (case aO => exact (by (with_reducible repeat (first | apply Kd.R_alloc | apply Kd.R_drewN | apply Kd.R_drew)); exact Kd.R_mono HO_11.out (fun _ hk => ⟨hk.1.1, ⟨hk.1.2, hk.2⟩⟩))); (case aS => exact (below_size (by repeat (first | (with_reducible first | exact HB.out | apply below_alloc | apply pw_below_drewN | apply below_drew1) | exact HB.out)))); (case aL => have := LMc53.out; omega); intro v359 w60 ho hb hg hat; rw [← Ny358.out] at ho; have n0_ := Aside0.mk (Kd.R_after (ok := (fun k_ => some k_ ≠ (v352 : Value).ownBlock ∧ some k_ ≠ (.slice Ao61 y355.length co61 : Value).ownBlock)) (by (with_reducible repeat (first | apply Kd.R_alloc | apply Kd.R_drewN | apply Kd.R_drew)); exact Kd.R_mono HO_14.out (fun _ hk => ⟨⟨hk.1.2, hk.2⟩, hk.1.1⟩)) hg hat); have n1_ := Aside0.mk (Kd.R_after (ok := (fun k_ => some k_ ≠ (.slice Ao45 t343.length co45 : Value).ownBlock ∧ some k_ ≠ (.slice Ao61 y355.length co61 : Value).ownBlock)) (by (with_reducible repeat (first | apply Kd.R_alloc | apply Kd.R_drewN | apply Kd.R_drew)); exact Kd.R_mono HO_17.out (fun _ hk => ⟨⟨hk.1.2, hk.2⟩, hk.1.1⟩)) hg hat); have n2_ := Aside0.mk (Kd.R_after (ok := (fun k_ => some k_ ≠ (.slice Ao45 t343.length co45 : Value).ownBlock ∧ some k_ ≠ (v352 : Value).ownBlock)) (by (with_reducible repeat (first | apply Kd.R_alloc | apply Kd.R_drewN | apply Kd.R_drew)); exact Kd.R_mono HO357.out (fun _ hk => ⟨⟨hk.1.2, hk.2⟩, hk.1.1.2⟩)) hg hat); have n3_ := Aside0.mk (hb); have n4_ := Aside0.mk (ho); clear HO_14; clear HO_17; clear HO357; clear HB; clear HO_11; have HO_14 := n0_; have HO_17 := n1_; have HO357 := n2_; have HB := n3_; have HO360 := n4_; clear n0_ n1_ n2_ n3_ n4_; clear ho hb hg hat; obtain ⟨Ao62, co62, eo62⟩ := Kd.R_slice HO360.out; subst eo62; obtain ⟨Ao63, co63, eo63⟩ := Kd.R_slice HO_17.out; subst eo63) | (go_at_call 12; (with_reducible refine (fletchlaw21_sameSteps.calls k3 _ _ t343 _ _ y351 t361 _ ?side1 ?side2 ?side3 ?side4 A57.out).mono ?_); (case side1 => repeat (first | exact (Kd.R_reads' HO_14.out).2.2 | (with_reducible refine Kd.C_alloc ?_ _) | (with_reducible refine Kd.C_drewN ?_ _) | (with_reducible refine Kd.C_drew ?_))); (case side2 => exact (Kd.R_reads' HO_14.out).2.1); (case side3 => repeat (first | exact (Kd.R_reads' HO_17.out).2.2 | (with_reducible refine Kd.C_alloc ?_ _) | (with_reducible refine Kd.C_drewN ?_ _) | (with_reducible refine Kd.C_drew ?_))); (case side4 => exact (Kd.R_reads' HO_17.out).2.1); rintro e w' ⟨rfl, ⟨nd, rfl⟩⟩))
                                          go_ret
                                          exact ⟨by first | rfl | (simp [errW_none, errW_some] <;> rfl) | (simp [*, errW_none, errW_some] <;> rfl), by repeat (first | (with_reducible first | exact HB.out | apply below_alloc | apply pw_below_drewN | apply below_drew1) | exact HB.out)⟩
                                        · rw [if_neg c56] at H
                                          have c56b0 : decide (2 ≤ (y358.length : Int)) = false := decide_eq_false c56
                                          have c56b1 : decide (2 ≤ y358.length) = false := decide_eq_false (by omega)
                                          clear c56
                                          obtain rfl := Option.some.inj H
                                          go_wp2_with (first | ((with_reducible refine gate_dst (N := 97) rfl ?_); (try (refine gate_guard (by rfl) ?_; dsimp only)); refine Kd.R_lit k36 _ 36 ?hg (N := 97) ?hd (xs := ([(⟨0, 0, 0, 0, 0⟩ : S36), (⟨0, 0, 0, 0, 0⟩ : S36)] : List (S36))) (inner := [.int .i64 0, .int .i64 0, .int .i64 0, .int .i64 0, .int .i64 0, .int .i64 0, .int .i64 0, .int .i64 0, .int .i64 0, .int .i64 0]) (ok := fun _ => True) (okp := fun _ => True) ?hr ?hp (fun _ hk => hk) trivial (Below.refl _ _) (Nat.le_refl _) (by simp) ?_; (case hd => rfl); (case hg => rfl); (case hr => first | (go_simp; done) | (go_simp; rfl)); (case hp => exact (Reps.c5 (show Kd.M k36 _ _ _ (⟨0, 0, 0, 0, 0⟩ : S36) [.int .i64 0, .int .i64 0, .int .i64 0, .int .i64 0, .int .i64 0] from (k36_mkM _ _ _ (⟨0, 0, 0, 0, 0⟩ : S36) )) (Reps.c5 (show Kd.M k36 _ _ _ (⟨0, 0, 0, 0, 0⟩ : S36) [.int .i64 0, .int .i64 0, .int .i64 0, .int .i64 0, .int .i64 0] from (k36_mkM _ _ _ (⟨0, 0, 0, 0, 0⟩ : S36) )) (Reps.none _ _)))); intro v356 w64 ho65 hb hg_ hnew_; clear hg_ hnew_; (first | rw [← Ny355.out] at ho65 | (simp only [Int.reduceToNat] at ho65; rw [← Ny355.out] at ho65)); have n0_ := Aside0.mk (Kd.R_elder' (by (with_reducible repeat (first | apply Kd.R_alloc | apply Kd.R_drewN | apply Kd.R_drew)); exact HO_11.out) (Kd.R_base ho65) hb); have n1_ := Aside0.mk (Kd.R_elder' (by (with_reducible repeat (first | apply Kd.R_alloc | apply Kd.R_drewN | apply Kd.R_drew)); exact HO_14.out) (Kd.R_base ho65) hb); have n2_ := Aside0.mk (Kd.R_elder' (by (with_reducible repeat (first | apply Kd.R_alloc | apply Kd.R_drewN | apply Kd.R_drew)); exact HO_17.out) (Kd.R_base ho65) hb); have n3_ := Aside0.mk (Kd.R_lower (Kd.R_new' (Kd.R_new' (Kd.R_new' ho65 (Kd.R_lt (by (with_reducible repeat (first | apply Kd.R_alloc | apply Kd.R_drewN | apply Kd.R_drew)); exact HO_11.out))) (Kd.R_lt (by (with_reducible repeat (first | apply Kd.R_alloc | apply Kd.R_drewN | apply Kd.R_drew)); exact HO_14.out))) (Kd.R_lt (by (with_reducible repeat (first | apply Kd.R_alloc | apply Kd.R_drewN | apply Kd.R_drew)); exact HO_17.out))) (below_size (by repeat (first | (with_reducible first | exact HB.out | apply below_alloc | apply pw_below_drewN | apply below_drew1) | exact HB.out)))); have n4_ := Aside0.mk (below_step (by repeat (first | (with_reducible first | exact HB.out | apply below_alloc | apply pw_below_drewN | apply below_drew1) | exact HB.out)) hb); clear HO_11; clear HO_14; clear HO_17; clear HB; have HO_11 := n0_; have HO_14 := n1_; have HO_17 := n2_; have HO357 := n3_; have HB := n4_; clear n0_ n1_ n2_ n3_ n4_; clear hb ho65; obtain ⟨Ao67, co67, eo67⟩ := Kd.R_slice HO357.out; subst eo67) | ((with_reducible refine gate_builtin (b := .append) (xs := #[.tmp 94, .tmp 97]) rfl ?_); (try (refine gate_guard (by rfl) ?_; dsimp only)); at_builtin; refine Kd.R_append_rows k36 (w0 := w) w.heap.size rfl (.tmp 94) (.tmp 97) 23 36 (.agg #[(.int .i64 0), (.int .i64 0), (.int .i64 0), (.int .i64 0), (.int .i64 0)]) 40 rfl Tryd.underlying23 info36 rfl (by decide) (by omega) (.slice Ao46 x11_3.length co46) x11_3 y355 _ _ _ (fun k_ => some k_ ≠ (.slice Ao45 t343.length co45 : Value).ownBlock ∧ some k_ ≠ (v352 : Value).ownBlock ∧ some k_ ≠ (.slice Ao67 y355.length co67 : Value).ownBlock) (fun _ => False) rfl rfl ?aO ?aR (fun _ _ h => h) (fun _ h => h.elim) ?aF ?aB ?aS ?aL ?_; (case aR => repeat (first | exact (Kd.R_reads' HO357.out).2.2 | (with_reducible refine Kd.C_alloc ?_ _) | (with_reducible refine Kd.C_drewN ?_ _) | (with_reducible refine Kd.C_drew ?_))); (case aB => exact (by repeat (first | (with_reducible first | exact HB.out | apply below_alloc | apply pw_below_drewN | apply below_drew1) | exact HB.out))); (case aF => exact (fun k_ hk => ⟨Kd.fresh' (Kd.R_lt (by (with_reducible repeat (first | apply Kd.R_alloc | apply Kd.R_drewN | apply Kd.R_drew)); exact HO_14.out)) k_ hk, Kd.fresh' (Kd.R_lt (by (with_reducible repeat (first | apply Kd.R_alloc | apply Kd.R_drewN | apply Kd.R_drew)); exact HO_17.out)) k_ hk, Kd.fresh' (Kd.R_lt (by (with_reducible repeat (first | apply Kd.R_alloc | apply Kd.R_drewN | apply Kd.R_drew)); exact HO357.out)) k_ hk⟩)); (case aO => exact (by (with_reducible repeat (first | apply Kd.R_alloc | apply Kd.R_drewN | apply Kd.R_drew)); exact Kd.R_mono HO_11.out (fun _ hk => ⟨hk.1.1, ⟨hk.1.2, hk.2⟩⟩))); (case aS => exact (below_size (by repeat (first | (with_reducible first | exact HB.out | apply below_alloc | apply pw_below_drewN | apply below_drew1) | exact HB.out)))); (case aL => have := LMc53.out; omega); intro v359 w66 ho hb hg hat; rw [← Ny358.out] at ho; have n0_ := Aside0.mk (Kd.R_after (ok := (fun k_ => some k_ ≠ (v352 : Value).ownBlock ∧ some k_ ≠ (.slice Ao67 y355.length co67 : Value).ownBlock)) (by (with_reducible repeat (first | apply Kd.R_alloc | apply Kd.R_drewN | apply Kd.R_drew)); exact Kd.R_mono HO_14.out (fun _ hk => ⟨⟨hk.1.2, hk.2⟩, hk.1.1⟩)) hg hat); have n1_ := Aside0.mk (Kd.R_after (ok := (fun k_ => some k_ ≠ (.slice Ao45 t343.length co45 : Value).ownBlock ∧ some k_ ≠ (.slice Ao67 y355.length co67 : Value).ownBlock)) (by (with_reducible repeat (first | apply Kd.R_alloc | apply Kd.R_drewN | apply Kd.R_drew)); exact Kd.R_mono HO_17.out (fun _ hk => ⟨⟨hk.1.2, hk.2⟩, hk.1.1⟩)) hg hat); have n2_ := Aside0.mk (Kd.R_after (ok := (fun k_ => some k_ ≠ (.slice Ao45 t343.length co45 : Value).ownBlock ∧ some k_ ≠ (v352 : Value).ownBlock)) (by (with_reducible repeat (first | apply Kd.R_alloc | apply Kd.R_drewN | apply Kd.R_drew)); exact Kd.R_mono HO357.out (fun _ hk => ⟨⟨hk.1.2, hk.2⟩, hk.1.1.2⟩)) hg hat); have n3_ := Aside0.mk (hb); have n4_ := Aside0.mk (ho); clear HO_14; clear HO_17; clear HO357; clear HB; clear HO_11; have HO_14 := n0_; have HO_17 := n1_; have HO357 := n2_; have HB := n3_; have HO360 := n4_; clear n0_ n1_ n2_ n3_ n4_; clear ho hb hg hat; obtain ⟨Ao68, co68, eo68⟩ := Kd.R_slice HO360.out; subst eo68))
                                          go_ret
                                          exact ⟨by first | rfl | (simp [errW_none, errW_some] <;> rfl) | (simp [*, errW_none, errW_some] <;> rfl), by repeat (first | (with_reducible first | exact HB.out | apply below_alloc | apply pw_below_drewN | apply below_drew1) | exact HB.out)⟩
                                      · rw [if_neg c55] at H
                                        have c55b0 : (t328 == t337) = false := beq_eq_false_iff_ne.mpr c55
                                        have c55b1 : (t328 != t337) = true := bne_iff_ne.mpr c55
                                        obtain rfl := Option.some.inj H
                                        go_wp2_with (first | ((with_reducible refine gate_dst (N := 97) rfl ?_); (try (refine gate_guard (by rfl) ?_; dsimp only)); refine Kd.R_lit k36 _ 36 ?hg (N := 97) ?hd (xs := ([(⟨0, 0, 0, 0, 0⟩ : S36), (⟨0, 0, 0, 0, 0⟩ : S36)] : List (S36))) (inner := [.int .i64 0, .int .i64 0, .int .i64 0, .int .i64 0, .int .i64 0, .int .i64 0, .int .i64 0, .int .i64 0, .int .i64 0, .int .i64 0]) (ok := fun _ => True) (okp := fun _ => True) ?hr ?hp (fun _ hk => hk) trivial (Below.refl _ _) (Nat.le_refl _) (by simp) ?_; (case hd => rfl); (case hg => rfl); (case hr => first | (go_simp; done) | (go_simp; rfl)); (case hp => exact (Reps.c5 (show Kd.M k36 _ _ _ (⟨0, 0, 0, 0, 0⟩ : S36) [.int .i64 0, .int .i64 0, .int .i64 0, .int .i64 0, .int .i64 0] from (k36_mkM _ _ _ (⟨0, 0, 0, 0, 0⟩ : S36) )) (Reps.c5 (show Kd.M k36 _ _ _ (⟨0, 0, 0, 0, 0⟩ : S36) [.int .i64 0, .int .i64 0, .int .i64 0, .int .i64 0, .int .i64 0] from (k36_mkM _ _ _ (⟨0, 0, 0, 0, 0⟩ : S36) )) (Reps.none _ _)))); intro v356 w69 ho70 hb hg_ hnew_; clear hg_ hnew_; (first | rw [← Ny355.out] at ho70 | (simp only [Int.reduceToNat] at ho70; rw [← Ny355.out] at ho70)); have n0_ := Aside0.mk (Kd.R_elder' (by (with_reducible repeat (first | apply Kd.R_alloc | apply Kd.R_drewN | apply Kd.R_drew)); exact HO_11.out) (Kd.R_base ho70) hb); have n1_ := Aside0.mk (Kd.R_elder' (by (with_reducible repeat (first | apply Kd.R_alloc | apply Kd.R_drewN | apply Kd.R_drew)); exact HO_14.out) (Kd.R_base ho70) hb); have n2_ := Aside0.mk (Kd.R_elder' (by (with_reducible repeat (first | apply Kd.R_alloc | apply Kd.R_drewN | apply Kd.R_drew)); exact HO_17.out) (Kd.R_base ho70) hb); have n3_ := Aside0.mk (Kd.R_lower (Kd.R_new' (Kd.R_new' (Kd.R_new' ho70 (Kd.R_lt (by (with_reducible repeat (first | apply Kd.R_alloc | apply Kd.R_drewN | apply Kd.R_drew)); exact HO_11.out))) (Kd.R_lt (by (with_reducible repeat (first | apply Kd.R_alloc | apply Kd.R_drewN | apply Kd.R_drew)); exact HO_14.out))) (Kd.R_lt (by (with_reducible repeat (first | apply Kd.R_alloc | apply Kd.R_drewN | apply Kd.R_drew)); exact HO_17.out))) (below_size (by repeat (first | (with_reducible first | exact HB.out | apply below_alloc | apply pw_below_drewN | apply below_drew1) | exact HB.out)))); have n4_ := Aside0.mk (below_step (by repeat (first | (with_reducible first | exact HB.out | apply below_alloc | apply pw_below_drewN | apply below_drew1) | exact HB.out)) hb); clear HO_11; clear HO_14; clear HO_17; clear HB; have HO_11 := n0_; have HO_14 := n1_; have HO_17 := n2_; have HO357 := n3_; have HB := n4_; clear n0_ n1_ n2_ n3_ n4_; clear hb ho70; obtain ⟨Ao72, co72, eo72⟩ := Kd.R_slice HO357.out; subst eo72) | ((with_reducible refine gate_builtin (b := .append) (xs := #[.tmp 94, .tmp 97]) rfl ?_); (try (refine gate_guard (by rfl) ?_; dsimp only)); at_builtin; refine Kd.R_append_rows k36 (w0 := w) w.heap.size rfl (.tmp 94) (.tmp 97) 23 36 (.agg #[(.int .i64 0), (.int .i64 0), (.int .i64 0), (.int .i64 0), (.int .i64 0)]) 40 rfl Tryd.underlying23 info36 rfl (by decide) (by omega) (.slice Ao46 x11_3.length co46) x11_3 y355 _ _ _ (fun k_ => some k_ ≠ (.slice Ao45 t343.length co45 : Value).ownBlock ∧ some k_ ≠ (v352 : Value).ownBlock ∧ some k_ ≠ (.slice Ao72 y355.length co72 : Value).ownBlock) (fun _ => False) rfl rfl ?aO ?aR (fun _ _ h => h) (fun _ h => h.elim) ?aF ?aB ?aS ?aL ?_; (case aR => repeat (first | exact (Kd.R_reads' HO357.out).2.2 | (with_reducible refine Kd.C_alloc ?_ _) | (with_reducible refine Kd.C_drewN ?_ _) | (with_reducible refine Kd.C_drew ?_))); (case aB => exact (by repeat (first | (with_reducible first | exact HB.out | apply below_alloc | apply pw_below_drewN | apply below_drew1) | exact HB.out))); (case aF => exact (fun k_ hk => ⟨Kd.fresh' (Kd.R_lt (by (with_reducible repeat (first | apply Kd.R_alloc | apply Kd.R_drewN | apply Kd.R_drew)); exact HO_14.out)) k_ hk, Kd.fresh' (Kd.R_lt (by (with_reducible repeat (first | apply Kd.R_alloc | apply Kd.R_drewN | apply Kd.R_drew)); exact HO_17.out)) k_ hk, Kd.fresh' (Kd.R_lt (by (with_reducible repeat (first | apply Kd.R_alloc | apply Kd.R_drewN | apply Kd.R_drew)); exact HO357.out)) k_ hk⟩)); (case aO => exact (by (with_reducible repeat (first | apply Kd.R_alloc | apply Kd.R_drewN | apply Kd.R_drew)); exact Kd.R_mono HO_11.out (fun _ hk => ⟨hk.1.1, ⟨hk.1.2, hk.2⟩⟩))); (case aS => exact (below_size (by repeat (first | (with_reducible first | exact HB.out | apply below_alloc | apply pw_below_drewN | apply below_drew1) | exact HB.out)))); (case aL => have := LMc53.out; omega); intro v359 w71 ho hb hg hat; rw [← Ny358.out] at ho; have n0_ := Aside0.mk (Kd.R_after (ok := (fun k_ => some k_ ≠ (v352 : Value).ownBlock ∧ some k_ ≠ (.slice Ao72 y355.length co72 : Value).ownBlock)) (by (with_reducible repeat (first | apply Kd.R_alloc | apply Kd.R_drewN | apply Kd.R_drew)); exact Kd.R_mono HO_14.out (fun _ hk => ⟨⟨hk.1.2, hk.2⟩, hk.1.1⟩)) hg hat); have n1_ := Aside0.mk (Kd.R_after (ok := (fun k_ => some k_ ≠ (.slice Ao45 t343.length co45 : Value).ownBlock ∧ some k_ ≠ (.slice Ao72 y355.length co72 : Value).ownBlock)) (by (with_reducible repeat (first | apply Kd.R_alloc | apply Kd.R_drewN | apply Kd.R_drew)); exact Kd.R_mono HO_17.out (fun _ hk => ⟨⟨hk.1.2, hk.2⟩, hk.1.1⟩)) hg hat); have n2_ := Aside0.mk (Kd.R_after (ok := (fun k_ => some k_ ≠ (.slice Ao45 t343.length co45 : Value).ownBlock ∧ some k_ ≠ (v352 : Value).ownBlock)) (by (with_reducible repeat (first | apply Kd.R_alloc | apply Kd.R_drewN | apply Kd.R_drew)); exact Kd.R_mono HO357.out (fun _ hk => ⟨⟨hk.1.2, hk.2⟩, hk.1.1.2⟩)) hg hat); have n3_ := Aside0.mk (hb); have n4_ := Aside0.mk (ho); clear HO_14; clear HO_17; clear HO357; clear HB; clear HO_11; have HO_14 := n0_; have HO_17 := n1_; have HO357 := n2_; have HB := n3_; have HO360 := n4_; clear n0_ n1_ n2_ n3_ n4_; clear ho hb hg hat))
                                        go_ret
                                        exact ⟨by first | rfl | (simp [errW_none, errW_some] <;> rfl) | (simp [*, errW_none, errW_some] <;> rfl), by repeat (first | (with_reducible first | exact HB.out | apply below_alloc | apply pw_below_drewN | apply below_drew1) | exact HB.out)⟩
                                    · rw [if_neg c54] at H
                                      have c54b0 : (t327.toList == t336.toList) = false := beq_eq_false_iff_ne.mpr c54
                                      have c54b1 : (t327.toList != t336.toList) = true := bne_iff_ne.mpr c54
                                      obtain rfl := Option.some.inj H
                                      go_wp2_with (first | ((with_reducible refine gate_dst (N := 97) rfl ?_); (try (refine gate_guard (by rfl) ?_; dsimp only)); refine Kd.R_lit k36 _ 36 ?hg (N := 97) ?hd (xs := ([(⟨0, 0, 0, 0, 0⟩ : S36), (⟨0, 0, 0, 0, 0⟩ : S36)] : List (S36))) (inner := [.int .i64 0, .int .i64 0, .int .i64 0, .int .i64 0, .int .i64 0, .int .i64 0, .int .i64 0, .int .i64 0, .int .i64 0, .int .i64 0]) (ok := fun _ => True) (okp := fun _ => True) ?hr ?hp (fun _ hk => hk) trivial (Below.refl _ _) (Nat.le_refl _) (by simp) ?_; (case hd => rfl); (case hg => rfl); (case hr => first | (go_simp; done) | (go_simp; rfl)); (case hp => exact (Reps.c5 (show Kd.M k36 _ _ _ (⟨0, 0, 0, 0, 0⟩ : S36) [.int .i64 0, .int .i64 0, .int .i64 0, .int .i64 0, .int .i64 0] from (k36_mkM _ _ _ (⟨0, 0, 0, 0, 0⟩ : S36) )) (Reps.c5 (show Kd.M k36 _ _ _ (⟨0, 0, 0, 0, 0⟩ : S36) [.int .i64 0, .int .i64 0, .int .i64 0, .int .i64 0, .int .i64 0] from (k36_mkM _ _ _ (⟨0, 0, 0, 0, 0⟩ : S36) )) (Reps.none _ _)))); intro v356 w73 ho74 hb hg_ hnew_; clear hg_ hnew_; (first | rw [← Ny355.out] at ho74 | (simp only [Int.reduceToNat] at ho74; rw [← Ny355.out] at ho74)); have n0_ := Aside0.mk (Kd.R_elder' (by (with_reducible repeat (first | apply Kd.R_alloc | apply Kd.R_drewN | apply Kd.R_drew)); exact HO_11.out) (Kd.R_base ho74) hb); have n1_ := Aside0.mk (Kd.R_elder' (by (with_reducible repeat (first | apply Kd.R_alloc | apply Kd.R_drewN | apply Kd.R_drew)); exact HO_14.out) (Kd.R_base ho74) hb); have n2_ := Aside0.mk (Kd.R_elder' (by (with_reducible repeat (first | apply Kd.R_alloc | apply Kd.R_drewN | apply Kd.R_drew)); exact HO_17.out) (Kd.R_base ho74) hb); have n3_ := Aside0.mk (Kd.R_lower (Kd.R_new' (Kd.R_new' (Kd.R_new' ho74 (Kd.R_lt (by (with_reducible repeat (first | apply Kd.R_alloc | apply Kd.R_drewN | apply Kd.R_drew)); exact HO_11.out))) (Kd.R_lt (by (with_reducible repeat (first | apply Kd.R_alloc | apply Kd.R_drewN | apply Kd.R_drew)); exact HO_14.out))) (Kd.R_lt (by (with_reducible repeat (first | apply Kd.R_alloc | apply Kd.R_drewN | apply Kd.R_drew)); exact HO_17.out))) (below_size (by repeat (first | (with_reducible first | exact HB.out | apply below_alloc | apply pw_below_drewN | apply below_drew1) | exact HB.out)))); have n4_ := Aside0.mk (below_step (by repeat (first | (with_reducible first | exact HB.out | apply below_alloc | apply pw_below_drewN | apply below_drew1) | exact HB.out)) hb); clear HO_11; clear HO_14; clear HO_17; clear HB; have HO_11 := n0_; have HO_14 := n1_; have HO_17 := n2_; have HO357 := n3_; have HB := n4_; clear n0_ n1_ n2_ n3_ n4_; clear hb ho74; obtain ⟨Ao76, co76, eo76⟩ := Kd.R_slice HO357.out; subst eo76) | ((with_reducible refine gate_builtin (b := .append) (xs := #[.tmp 94, .tmp 97]) rfl ?_); (try (refine gate_guard (by rfl) ?_; dsimp only)); at_builtin; refine Kd.R_append_rows k36 (w0 := w) w.heap.size rfl (.tmp 94) (.tmp 97) 23 36 (.agg #[(.int .i64 0), (.int .i64 0), (.int .i64 0), (.int .i64 0), (.int .i64 0)]) 40 rfl Tryd.underlying23 info36 rfl (by decide) (by omega) (.slice Ao46 x11_3.length co46) x11_3 y355 _ _ _ (fun k_ => some k_ ≠ (.slice Ao45 t343.length co45 : Value).ownBlock ∧ some k_ ≠ (v352 : Value).ownBlock ∧ some k_ ≠ (.slice Ao76 y355.length co76 : Value).ownBlock) (fun _ => False) rfl rfl ?aO ?aR (fun _ _ h => h) (fun _ h => h.elim) ?aF ?aB ?aS ?aL ?_; (case aR => repeat (first | exact (Kd.R_reads' HO357.out).2.2 | (with_reducible refine Kd.C_alloc ?_ _) | (with_reducible refine Kd.C_drewN ?_ _) | (with_reducible refine Kd.C_drew ?_))); (case aB => exact (by repeat (first | (with_reducible first | exact HB.out | apply below_alloc | apply pw_below_drewN | apply below_drew1) | exact HB.out))); (case aF => exact (fun k_ hk => ⟨Kd.fresh' (Kd.R_lt (by (with_reducible repeat (first | apply Kd.R_alloc | apply Kd.R_drewN | apply Kd.R_drew)); exact HO_14.out)) k_ hk, Kd.fresh' (Kd.R_lt (by (with_reducible repeat (first | apply Kd.R_alloc | apply Kd.R_drewN | apply Kd.R_drew)); exact HO_17.out)) k_ hk, Kd.fresh' (Kd.R_lt (by (with_reducible repeat (first | apply Kd.R_alloc | apply Kd.R_drewN | apply Kd.R_drew)); exact HO357.out)) k_ hk⟩)); (case aO => exact (by (with_reducible repeat (first | apply Kd.R_alloc | apply Kd.R_drewN | apply Kd.R_drew)); exact Kd.R_mono HO_11.out (fun _ hk => ⟨hk.1.1, ⟨hk.1.2, hk.2⟩⟩))); (case aS => exact (below_size (by repeat (first | (with_reducible first | exact HB.out | apply below_alloc | apply pw_below_drewN | apply below_drew1) | exact HB.out)))); (case aL => have := LMc53.out; omega); intro v359 w75 ho hb hg hat; rw [← Ny358.out] at ho; have n0_ := Aside0.mk (Kd.R_after (ok := (fun k_ => some k_ ≠ (v352 : Value).ownBlock ∧ some k_ ≠ (.slice Ao76 y355.length co76 : Value).ownBlock)) (by (with_reducible repeat (first | apply Kd.R_alloc | apply Kd.R_drewN | apply Kd.R_drew)); exact Kd.R_mono HO_14.out (fun _ hk => ⟨⟨hk.1.2, hk.2⟩, hk.1.1⟩)) hg hat); have n1_ := Aside0.mk (Kd.R_after (ok := (fun k_ => some k_ ≠ (.slice Ao45 t343.length co45 : Value).ownBlock ∧ some k_ ≠ (.slice Ao76 y355.length co76 : Value).ownBlock)) (by (with_reducible repeat (first | apply Kd.R_alloc | apply Kd.R_drewN | apply Kd.R_drew)); exact Kd.R_mono HO_17.out (fun _ hk => ⟨⟨hk.1.2, hk.2⟩, hk.1.1⟩)) hg hat); have n2_ := Aside0.mk (Kd.R_after (ok := (fun k_ => some k_ ≠ (.slice Ao45 t343.length co45 : Value).ownBlock ∧ some k_ ≠ (v352 : Value).ownBlock)) (by (with_reducible repeat (first | apply Kd.R_alloc | apply Kd.R_drewN | apply Kd.R_drew)); exact Kd.R_mono HO357.out (fun _ hk => ⟨⟨hk.1.2, hk.2⟩, hk.1.1.2⟩)) hg hat); have n3_ := Aside0.mk (hb); have n4_ := Aside0.mk (ho); clear HO_14; clear HO_17; clear HO357; clear HB; clear HO_11; have HO_14 := n0_; have HO_17 := n1_; have HO357 := n2_; have HB := n3_; have HO360 := n4_; clear n0_ n1_ n2_ n3_ n4_; clear ho hb hg hat))
                                      go_ret
                                      exact ⟨by first | rfl | (simp [errW_none, errW_some] <;> rfl) | (simp [*, errW_none, errW_some] <;> rfl), by repeat (first | (with_reducible first | exact HB.out | apply below_alloc | apply pw_below_drewN | apply below_drew1) | exact HB.out)⟩
                                  · rw [if_neg c53] at H
                                    exact absurd H (by simp)
                          · rw [if_neg c38] at H
                            exact absurd H (by simp)
            · rw [if_neg c10] at H
              exact absurd H (by simp)
          · rw [if_neg c9] at H
            exact absurd H (by simp)
        · rw [if_neg c8] at H
          exact absurd H (by simp)
      · rw [if_neg c7] at H
        exact absurd H (by simp)
  · replace c4 := Bool.eq_false_iff.mpr c4
    subst c4
    have H1 : (some false) = some r := by rw [if_neg (show ¬ (false = true) by decide)] at H; exact H
    clear H
    have H := H1
    clear H1
    obtain rfl := Option.some.inj H
    go_enter Tryd.func7, Tryd.ntmps7
    go_wp2_with (first | ((with_reducible refine gate_callee (f := 9) rfl ?_); refine goesL_ (some 19) rfl rfl Tryd.func9 (by kernel_rfl) rfl #[] rfl (by (try simp only [List.map_toArray, List.map_cons, List.map_nil]); first | done | rfl | (simp only [List.length_drop, List.length_take]; rfl)) ?_; (with_reducible refine (fletchlaw21_wakes.calls k  false _ ?side1 A3.out).mono ?_); (case side1 => repeat (first | (with_reducible exact HG_.out) | (with_reducible apply Glob.drewN) | (with_reducible apply Glob.drew) | (with_reducible apply Glob.alloc) | exact Glob.below HG_.out (by repeat (first | (with_reducible first | exact HB.out | apply below_alloc | apply pw_below_drewN | apply below_drew1) | exact HB.out)) | exact HG_.out)); rintro e w77 ⟨rfl, hb⟩; refine ⟨_, rfl, ?_⟩; have n0_ := Aside0.mk (below_step (by repeat (first | (with_reducible first | exact HB.out | apply below_alloc | apply pw_below_drewN | apply below_drew1) | exact HB.out)) hb); clear HB; have HB := n0_; clear n0_; (try clear hb); (try clear hb2); (try clear hk); (try clear hi)))
    go_ret
    exact ⟨by first | rfl | (simp [errW_none, errW_some] <;> rfl) | (simp [*, errW_none, errW_some] <;> rfl), by repeat (first | (with_reducible first | exact HB.out | apply below_alloc | apply pw_below_drewN | apply below_drew1) | exact HB.out)⟩

end Go.Proofs.YtpeokbbidipdkaaDoor.Q
