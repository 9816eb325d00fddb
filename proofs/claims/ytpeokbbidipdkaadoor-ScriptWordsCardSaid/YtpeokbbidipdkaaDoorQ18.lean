-- Written by a program of the session (wip/tools/gprint.py over the kit's printer).
import Derived.Test.YtpeokbbidipdkaaDoorQ0
import Derived.Test.YtpeokbbidipdkaaDoorQ10
import Derived.Test.YtpeokbbidipdkaaDoorQ11
import Derived.Test.YtpeokbbidipdkaaDoorParse
import Derived.Test.YtpeokbbidipdkaaDoorText
namespace Go.Proofs.YtpeokbbidipdkaaDoor.Q
open Go.RowKit Go.Proofs.YtpeokbbidipdkaaDoorW.PrintWords Go.Proofs.YtpeokbbidipdkaaDoorW.PrintLast Go.Proofs.YtpeokbbidipdkaaDoorW.PrintMore
attribute [local go_sem] max2_int min2_int max_two min_two max_three min_three max_four min_four   -- for this text's walks alone
set_option linter.unusedVariables false
set_option linter.unusedSimpArgs false

/-! ### fletchlaw21_ScriptWords: function 6 -/
mutual
def fletchlaw21_ScriptWords.j0 : Nat → List (S36) → List Int → ByteArray → Bool → Option (Bool)
  | 0, _, _, _, _ => none
  | k + 1, x0, x1, x5, x30 => if x30 = true then (some true) else (fletchlaw21_ScriptWords.l0 k x0 x1 x5 (⟨#[]⟩ : ByteArray) 0 0)
def fletchlaw21_ScriptWords.l0 : Nat → List (S36) → List Int → ByteArray → ByteArray → Int → Int → Option (Bool)
  | 0, _, _, _, _, _, _ => none
  | k + 1, x0, x1, x5, x7, x8, x9 => if x9 < (x5.size : Int) then (if x8 < (x1.length : Int) then (if 0 ≤ x9 then (if (bt x5 x9) = 32 then (fletchlaw21_ScriptWords.j2 k x0 x1 x5 x7 x8 x9 0 true) else (fletchlaw21_ScriptWords.j2 k x0 x1 x5 x7 x8 x9 0 ((bt x5 x9) == 10))) else (none)) else (fletchlaw21_ScriptWords.j2 k x0 x1 x5 x7 x8 x9 0 false)) else (if 1 + x7.size ≤ 9223372036854775807 then ((script_Parse.f ((⟨#[32]⟩ : ByteArray) ++ x7)).bind fun bt306 => (if bt306.2.1 = 0 then (if bt306.2.2 = 0 then ((fletchlaw21_sameSteps.f k bt306.1 x0).bind fun t311 => (some t311)) else (some false)) else (some false))) else (none))
def fletchlaw21_ScriptWords.j2 : Nat → List (S36) → List Int → ByteArray → ByteArray → Int → Int → Int → Bool → Option (Bool)
  | 0, _, _, _, _, _, _, _, _ => none
  | k + 1, x0, x1, x5, x7, x8, x9, x10, x52 => if x52 = true then (if 0 ≤ x8 then (if x8 < (x1.length : Int) then (fletchlaw21_ScriptWords.j3 k x0 x1 x5 x7 (wrap64 (x8 + 1)) x9 (Go.bits .and .i64 (rd x1 x8) 3)) else (none)) else (none)) else (fletchlaw21_ScriptWords.j3 k x0 x1 x5 x7 x8 x9 x10)
def fletchlaw21_ScriptWords.j3 : Nat → List (S36) → List Int → ByteArray → ByteArray → Int → Int → Int → Option (Bool)
  | 0, _, _, _, _, _, _, _ => none
  | k + 1, x0, x1, x5, x7, x8, x9, x10 => fletchlaw21_ScriptWords.l1 k x0 x1 x5 x7 x8 x9 x10 0
def fletchlaw21_ScriptWords.l1 : Nat → List (S36) → List Int → ByteArray → ByteArray → Int → Int → Int → Int → Option (Bool)
  | 0, _, _, _, _, _, _, _, _ => none
  | k + 1, x0, x1, x5, x7, x8, x9, x10, x11 => if x11 < x10 then (if x7.size + 1 ≤ 9223372036854775807 then (fletchlaw21_ScriptWords.l1 k x0 x1 x5 (x7 ++ (⟨#[32]⟩ : ByteArray)) x8 x9 x10 (wrap64 (x11 + 1))) else (none)) else (if 0 ≤ x9 then (if x9 ≤ (wrap64 (x9 + 1)) then (if (wrap64 (x9 + 1)) ≤ (x5.size : Int) then (if x7.size + (x5.extract (x9 : Int).toNat ((wrap64 (x9 + 1)) : Int).toNat).size ≤ 9223372036854775807 then (if x9 < (x5.size : Int) then (if (bt x5 x9) = 10 then (if x10 > 1 then (if (x7 ++ (x5.extract (x9 : Int).toNat ((wrap64 (x9 + 1)) : Int).toNat)).size + 1 ≤ 9223372036854775807 then (fletchlaw21_ScriptWords.l0 k x0 x1 x5 ((x7 ++ (x5.extract (x9 : Int).toNat ((wrap64 (x9 + 1)) : Int).toNat)) ++ (⟨#[10]⟩ : ByteArray)) x8 (wrap64 (x9 + 1))) else (none)) else (fletchlaw21_ScriptWords.l0 k x0 x1 x5 (x7 ++ (x5.extract (x9 : Int).toNat ((wrap64 (x9 + 1)) : Int).toNat)) x8 (wrap64 (x9 + 1)))) else (fletchlaw21_ScriptWords.l0 k x0 x1 x5 (x7 ++ (x5.extract (x9 : Int).toNat ((wrap64 (x9 + 1)) : Int).toNat)) x8 (wrap64 (x9 + 1)))) else (none)) else (none)) else (none)) else (none)) else (none))
end
def fletchlaw21_ScriptWords.f (k : Nat) (l0 : List (S36)) (l1 : List Int) : Option (Bool) := (fletchlaw21_wakes.f k).bind fun t303 => (if t303 = true then (if (l0.length : Int) > 1024 then (some true) else ((script_Text.f l0).bind fun bt304 => (if bt304.2 = 0 then (fletchlaw21_ScriptWords.j0 k l0 l1 bt304.1 (decide ((bt304.1.size : Int) > 4096))) else (fletchlaw21_ScriptWords.j0 k l0 l1 bt304.1 true)))) else (some false))
theorem fletchlaw21_ScriptWords.mono_l : ∀ k, (∀ y0 y1 y2 y3, LeO (fletchlaw21_ScriptWords.j0 k y0 y1 y2 y3) (fletchlaw21_ScriptWords.j0 (k + 1) y0 y1 y2 y3)) ∧ (∀ y0 y1 y2 y3 y4 y5, LeO (fletchlaw21_ScriptWords.l0 k y0 y1 y2 y3 y4 y5) (fletchlaw21_ScriptWords.l0 (k + 1) y0 y1 y2 y3 y4 y5)) ∧ (∀ y0 y1 y2 y3 y4 y5 y6 y7, LeO (fletchlaw21_ScriptWords.j2 k y0 y1 y2 y3 y4 y5 y6 y7) (fletchlaw21_ScriptWords.j2 (k + 1) y0 y1 y2 y3 y4 y5 y6 y7)) ∧ (∀ y0 y1 y2 y3 y4 y5 y6, LeO (fletchlaw21_ScriptWords.j3 k y0 y1 y2 y3 y4 y5 y6) (fletchlaw21_ScriptWords.j3 (k + 1) y0 y1 y2 y3 y4 y5 y6)) ∧ (∀ y0 y1 y2 y3 y4 y5 y6 y7, LeO (fletchlaw21_ScriptWords.l1 k y0 y1 y2 y3 y4 y5 y6 y7) (fletchlaw21_ScriptWords.l1 (k + 1) y0 y1 y2 y3 y4 y5 y6 y7))
  | 0 => ⟨fun _ _ _ _ r h => by simp [fletchlaw21_ScriptWords.j0] at h, fun _ _ _ _ _ _ r h => by simp [fletchlaw21_ScriptWords.l0] at h, fun _ _ _ _ _ _ _ _ r h => by simp [fletchlaw21_ScriptWords.j2] at h, fun _ _ _ _ _ _ _ r h => by simp [fletchlaw21_ScriptWords.j3] at h, fun _ _ _ _ _ _ _ _ r h => by simp [fletchlaw21_ScriptWords.l1] at h⟩
  | k + 1 => by
    obtain ⟨ih0, ih1, ih2, ih3, ih4⟩ := fletchlaw21_ScriptWords.mono_l k
    refine ⟨?_, ?_, ?_, ?_, ?_⟩
    · intro y0 y1 y2 y3
      unfold fletchlaw21_ScriptWords.j0
      repeat' first
      | (with_reducible exact ih0 _ _ _ _)
      | (with_reducible exact ih1 _ _ _ _ _ _)
      | (with_reducible exact ih2 _ _ _ _ _ _ _ _)
      | (with_reducible exact ih3 _ _ _ _ _ _ _)
      | (with_reducible exact ih4 _ _ _ _ _ _ _ _)
      | (with_reducible exact fletchlaw21_sameSteps.mono _ _ _)
      | (with_reducible exact fletchlaw21_wakes.mono _)
      | (with_reducible exact LeO.refl _)
      | (with_reducible exact LeO.none _)
      | (with_reducible refine LeO.ite ?_ ?_)
      | (with_reducible refine LeO.bind ?_ (fun _ => ?_))
      | exact ih0 _ _ _ _
      | exact ih1 _ _ _ _ _ _
      | exact ih2 _ _ _ _ _ _ _ _
      | exact ih3 _ _ _ _ _ _ _
      | exact ih4 _ _ _ _ _ _ _ _
      | exact fletchlaw21_sameSteps.mono _ _ _
      | exact fletchlaw21_wakes.mono _
      | exact LeO.none _
      | refine LeO.ite ?_ ?_
      | refine LeO.bind ?_ (fun _ => ?_)
    · intro y0 y1 y2 y3 y4 y5
      unfold fletchlaw21_ScriptWords.l0
      repeat' first
      | (with_reducible exact ih0 _ _ _ _)
      | (with_reducible exact ih1 _ _ _ _ _ _)
      | (with_reducible exact ih2 _ _ _ _ _ _ _ _)
      | (with_reducible exact ih3 _ _ _ _ _ _ _)
      | (with_reducible exact ih4 _ _ _ _ _ _ _ _)
      | (with_reducible exact fletchlaw21_sameSteps.mono _ _ _)
      | (with_reducible exact fletchlaw21_wakes.mono _)
      | (with_reducible exact LeO.refl _)
      | (with_reducible exact LeO.none _)
      | (with_reducible refine LeO.ite ?_ ?_)
      | (with_reducible refine LeO.bind ?_ (fun _ => ?_))
      | exact ih0 _ _ _ _
      | exact ih1 _ _ _ _ _ _
      | exact ih2 _ _ _ _ _ _ _ _
      | exact ih3 _ _ _ _ _ _ _
      | exact ih4 _ _ _ _ _ _ _ _
      | exact fletchlaw21_sameSteps.mono _ _ _
      | exact fletchlaw21_wakes.mono _
      | exact LeO.none _
      | refine LeO.ite ?_ ?_
      | refine LeO.bind ?_ (fun _ => ?_)
    · intro y0 y1 y2 y3 y4 y5 y6 y7
      unfold fletchlaw21_ScriptWords.j2
      repeat' first
      | (with_reducible exact ih0 _ _ _ _)
      | (with_reducible exact ih1 _ _ _ _ _ _)
      | (with_reducible exact ih2 _ _ _ _ _ _ _ _)
      | (with_reducible exact ih3 _ _ _ _ _ _ _)
      | (with_reducible exact ih4 _ _ _ _ _ _ _ _)
      | (with_reducible exact fletchlaw21_sameSteps.mono _ _ _)
      | (with_reducible exact fletchlaw21_wakes.mono _)
      | (with_reducible exact LeO.refl _)
      | (with_reducible exact LeO.none _)
      | (with_reducible refine LeO.ite ?_ ?_)
      | (with_reducible refine LeO.bind ?_ (fun _ => ?_))
      | exact ih0 _ _ _ _
      | exact ih1 _ _ _ _ _ _
      | exact ih2 _ _ _ _ _ _ _ _
      | exact ih3 _ _ _ _ _ _ _
      | exact ih4 _ _ _ _ _ _ _ _
      | exact fletchlaw21_sameSteps.mono _ _ _
      | exact fletchlaw21_wakes.mono _
      | exact LeO.none _
      | refine LeO.ite ?_ ?_
      | refine LeO.bind ?_ (fun _ => ?_)
    · intro y0 y1 y2 y3 y4 y5 y6
      unfold fletchlaw21_ScriptWords.j3
      repeat' first
      | (with_reducible exact ih0 _ _ _ _)
      | (with_reducible exact ih1 _ _ _ _ _ _)
      | (with_reducible exact ih2 _ _ _ _ _ _ _ _)
      | (with_reducible exact ih3 _ _ _ _ _ _ _)
      | (with_reducible exact ih4 _ _ _ _ _ _ _ _)
      | (with_reducible exact fletchlaw21_sameSteps.mono _ _ _)
      | (with_reducible exact fletchlaw21_wakes.mono _)
      | (with_reducible exact LeO.refl _)
      | (with_reducible exact LeO.none _)
      | (with_reducible refine LeO.ite ?_ ?_)
      | (with_reducible refine LeO.bind ?_ (fun _ => ?_))
      | exact ih0 _ _ _ _
      | exact ih1 _ _ _ _ _ _
      | exact ih2 _ _ _ _ _ _ _ _
      | exact ih3 _ _ _ _ _ _ _
      | exact ih4 _ _ _ _ _ _ _ _
      | exact fletchlaw21_sameSteps.mono _ _ _
      | exact fletchlaw21_wakes.mono _
      | exact LeO.none _
      | refine LeO.ite ?_ ?_
      | refine LeO.bind ?_ (fun _ => ?_)
    · intro y0 y1 y2 y3 y4 y5 y6 y7
      unfold fletchlaw21_ScriptWords.l1
      repeat' first
      | (with_reducible exact ih0 _ _ _ _)
      | (with_reducible exact ih1 _ _ _ _ _ _)
      | (with_reducible exact ih2 _ _ _ _ _ _ _ _)
      | (with_reducible exact ih3 _ _ _ _ _ _ _)
      | (with_reducible exact ih4 _ _ _ _ _ _ _ _)
      | (with_reducible exact fletchlaw21_sameSteps.mono _ _ _)
      | (with_reducible exact fletchlaw21_wakes.mono _)
      | (with_reducible exact LeO.refl _)
      | (with_reducible exact LeO.none _)
      | (with_reducible refine LeO.ite ?_ ?_)
      | (with_reducible refine LeO.bind ?_ (fun _ => ?_))
      | exact ih0 _ _ _ _
      | exact ih1 _ _ _ _ _ _
      | exact ih2 _ _ _ _ _ _ _ _
      | exact ih3 _ _ _ _ _ _ _
      | exact ih4 _ _ _ _ _ _ _ _
      | exact fletchlaw21_sameSteps.mono _ _ _
      | exact fletchlaw21_wakes.mono _
      | exact LeO.none _
      | refine LeO.ite ?_ ?_
      | refine LeO.bind ?_ (fun _ => ?_)
theorem fletchlaw21_ScriptWords.mono : ∀ a0 a1 k, LeO (fletchlaw21_ScriptWords.f k a0 a1) (fletchlaw21_ScriptWords.f (k + 1) a0 a1) := by
  intro a0 a1 k
  obtain ⟨ih0, ih1, ih2, ih3, ih4⟩ := fletchlaw21_ScriptWords.mono_l k
  unfold fletchlaw21_ScriptWords.f
  repeat' first
      | (with_reducible exact ih0 _ _ _ _)
      | (with_reducible exact ih1 _ _ _ _ _ _)
      | (with_reducible exact ih2 _ _ _ _ _ _ _ _)
      | (with_reducible exact ih3 _ _ _ _ _ _ _)
      | (with_reducible exact ih4 _ _ _ _ _ _ _ _)
      | (with_reducible exact fletchlaw21_sameSteps.mono _ _ _)
      | (with_reducible exact fletchlaw21_wakes.mono _)
      | (with_reducible exact LeO.refl _)
      | (with_reducible exact LeO.none _)
      | (with_reducible refine LeO.ite ?_ ?_)
      | (with_reducible refine LeO.bind ?_ (fun _ => ?_))
      | exact ih0 _ _ _ _
      | exact ih1 _ _ _ _ _ _
      | exact ih2 _ _ _ _ _ _ _ _
      | exact ih3 _ _ _ _ _ _ _
      | exact ih4 _ _ _ _ _ _ _ _
      | exact fletchlaw21_sameSteps.mono _ _ _
      | exact fletchlaw21_wakes.mono _
      | exact LeO.none _
      | refine LeO.ite ?_ ?_
      | refine LeO.bind ?_ (fun _ => ?_)
set_option maxHeartbeats 8000000 in
set_option maxRecDepth 100000 in
theorem fletchlaw21_ScriptWords.calls (k : Nat) (A0 : Option Addr) (c0 : Nat) (l0 : List (S36)) (A1 : Option Addr) (c1 : Nat) (l1 : List Int) (r : Bool) (w : World) (hG_ : Glob w) (hr0 : Kd.C k36 w A0 l0.length l0) (hc0 : l0.length ≤ c0) (hr1 : Kd.C (Kd.int .i64) w A1 l1.length l1) (hc1 : l1.length ≤ c1) (h : fletchlaw21_ScriptWords.f k l0 l1 = some r) :
    Calls Tryd.prog 6 #[.slice A0 l0.length c0, .slice A1 l1.length c1] w fun e w' => e = .returned (.bool r) ∧ Below w.heap.size w w' := by
  have HG_ := Aside0.mk hG_
  clear hG_
  have HR0 := Aside0.mk hr0
  have HC0 := Aside0.mk hc0
  clear hr0 hc0
  have HR1 := Aside0.mk hr1
  have HC1 := Aside0.mk hc1
  clear hr1 hc1
  have HB := Aside0.mk (Below.refl w.heap.size w)
  have H : ((fletchlaw21_wakes.f k).bind fun t303 => (if t303 = true then (if (l0.length : Int) > 1024 then (some true) else ((script_Text.f l0).bind fun bt304 => (if bt304.2 = 0 then (fletchlaw21_ScriptWords.j0 k l0 l1 bt304.1 (decide ((bt304.1.size : Int) > 4096))) else (fletchlaw21_ScriptWords.j0 k l0 l1 bt304.1 true)))) else (some false))) = some r := h
  clear h
  replace H := Option.bind_eq_some_iff.mp H
  obtain ⟨t303, A30, H⟩ := H
  replace H : (if t303 = true then (if (l0.length : Int) > 1024 then (some true) else ((script_Text.f l0).bind fun bt304 => (if bt304.2 = 0 then (fletchlaw21_ScriptWords.j0 k l0 l1 bt304.1 (decide ((bt304.1.size : Int) > 4096))) else (fletchlaw21_ScriptWords.j0 k l0 l1 bt304.1 true)))) else (some false)) = some r := H
  have A3 := Aside0.mk A30
  clear A30
  by_cases c4 : t303 = true
  · subst c4
    have H1 : (if (l0.length : Int) > 1024 then (some true) else ((script_Text.f l0).bind fun bt304 => (if bt304.2 = 0 then (fletchlaw21_ScriptWords.j0 k l0 l1 bt304.1 (decide ((bt304.1.size : Int) > 4096))) else (fletchlaw21_ScriptWords.j0 k l0 l1 bt304.1 true)))) = some r := by rw [if_pos rfl] at H; exact H
    clear H
    have H := H1
    clear H1
    by_cases c5 : (l0.length : Int) > 1024
    · rw [if_pos c5] at H
      have c5b0 : decide (1024 < (l0.length : Int)) = true := decide_eq_true c5
      have c5b1 : decide (1024 < l0.length) = true := decide_eq_true (by omega)
      clear c5
      obtain rfl := Option.some.inj H
      go_enter Tryd.func6, Tryd.ntmps6
      go_wp2_with (first | ((with_reducible refine gate_callee (f := 9) rfl ?_); refine goesL_ (some 14) rfl rfl Tryd.func9 (by kernel_rfl) rfl #[] rfl (by (try simp only [List.map_toArray, List.map_cons, List.map_nil]); first | done | rfl | (simp only [List.length_drop, List.length_take]; rfl)) ?_; (with_reducible refine (fletchlaw21_wakes.calls k  true _ ?side1 A3.out).mono ?_); (case side1 => repeat (first | (with_reducible exact HG_.out) | (with_reducible apply Glob.drewN) | (with_reducible apply Glob.drew) | (with_reducible apply Glob.alloc) | exact Glob.below HG_.out (by repeat (first | (with_reducible first | exact HB.out | apply below_alloc | apply pw_below_drewN | apply below_drew1) | exact HB.out)) | exact HG_.out)); rintro e w6 ⟨rfl, hb⟩; refine ⟨_, rfl, ?_⟩; have n0_ := Aside0.mk (below_step (by repeat (first | (with_reducible first | exact HB.out | apply below_alloc | apply pw_below_drewN | apply below_drew1) | exact HB.out)) hb); clear HB; have HB := n0_; clear n0_; (try clear hb); (try clear hb2); (try clear hk); (try clear hi)))
      go_ret
      exact ⟨by first | rfl | (simp [errW_none, errW_some] <;> rfl) | (simp [*, errW_none, errW_some] <;> rfl), by repeat (first | (with_reducible first | exact HB.out | apply below_alloc | apply pw_below_drewN | apply below_drew1) | exact HB.out)⟩
    · rw [if_neg c5] at H
      have c5b0 : decide (1024 < (l0.length : Int)) = false := decide_eq_false c5
      have c5b1 : decide (1024 < l0.length) = false := decide_eq_false (by omega)
      clear c5
      replace H := Option.bind_eq_some_iff.mp H
      obtain ⟨⟨t304, t305⟩, A70, H⟩ := H
      replace H : (if t305 = 0 then (fletchlaw21_ScriptWords.j0 k l0 l1 t304 (decide ((t304.size : Int) > 4096))) else (fletchlaw21_ScriptWords.j0 k l0 l1 t304 true)) = some r := H
      have A7 := Aside0.mk A70
      clear A70
      have HC8 := Aside0.mk H
      clear H
      go_enter Tryd.func6, Tryd.ntmps6
      go_upto_region 6 with (first | ((with_reducible refine gate_callee (f := 9) rfl ?_); refine goesL_ (some 14) rfl rfl Tryd.func9 (by kernel_rfl) rfl #[] rfl (by (try simp only [List.map_toArray, List.map_cons, List.map_nil]); first | done | rfl | (simp only [List.length_drop, List.length_take]; rfl)) ?_; (with_reducible refine (fletchlaw21_wakes.calls k  true _ ?side1 A3.out).mono ?_); (case side1 => repeat (first | (with_reducible exact HG_.out) | (with_reducible apply Glob.drewN) | (with_reducible apply Glob.drew) | (with_reducible apply Glob.alloc) | exact Glob.below HG_.out (by repeat (first | (with_reducible first | exact HB.out | apply below_alloc | apply pw_below_drewN | apply below_drew1) | exact HB.out)) | exact HG_.out)); rintro e w9 ⟨rfl, hb⟩; refine ⟨_, rfl, ?_⟩; have n0_ := Aside0.mk (below_step (by repeat (first | (with_reducible first | exact HB.out | apply below_alloc | apply pw_below_drewN | apply below_drew1) | exact HB.out)) hb); clear HB; have HB := n0_; clear n0_; (try clear hb); (try clear hb2); (try clear hk); (try clear hi)) | ((with_reducible refine gate_callee (f := 13) rfl ?_); refine goesL_ (some 21) rfl rfl Tryd.func13 (by kernel_rfl) rfl #[.slice A0 l0.length c0] rfl (by (try simp only [List.map_toArray, List.map_cons, List.map_nil]); first | done | rfl | (simp only [List.length_drop, List.length_take]; rfl)) ?_; (with_reducible refine (script_Text.calls _ _ l0 t304 t305 _ ?side1 ?side2 ?side3 A7.out).mono ?_); (case side1 => repeat (first | (with_reducible exact HG_.out) | (with_reducible apply Glob.drewN) | (with_reducible apply Glob.drew) | (with_reducible apply Glob.alloc) | exact Glob.below HG_.out (by repeat (first | (with_reducible first | exact HB.out | apply below_alloc | apply pw_below_drewN | apply below_drew1) | exact HB.out)) | exact HG_.out)); (case side2 => repeat (first | exact (Kd.C_below HR0.out HB.out) | (with_reducible refine Kd.C_alloc ?_ _) | (with_reducible refine Kd.C_drewN ?_ _) | (with_reducible refine Kd.C_drew ?_))); (case side3 => exact HC0.out); rintro e w10 ⟨rfl, hb⟩; refine ⟨_, rfl, ?_⟩; have n0_ := Aside0.mk (below_step (by repeat (first | (with_reducible first | exact HB.out | apply below_alloc | apply pw_below_drewN | apply below_drew1) | exact HB.out)) hb); clear HB; have HB := n0_; clear n0_; (try clear hb); (try clear hb2); (try clear hk); (try clear hi)))
      (try simp only [Act.put, List.setIfInBounds_toArray, List.set_cons_zero, List.set_cons_succ])
      go_cut [30] (fun v30 wc => ∃ (kq : Nat) (x30_7 : Bool), v30 = .bool x30_7 ∧ Aside0 (fletchlaw21_ScriptWords.j0 kq l0 l1 t304 x30_7 = some r) ∧ Aside0 (kq ≤ k) ∧ Aside0 (Below w.heap.size w wc))
      case first =>
        have H := HC8.out
        clear HC8
        by_cases c11 : t305 = 0
        · rw [if_pos c11] at H
          have c11b0 : (t305 == 0) = true := beq_iff_eq.mpr c11
          have c11b1 : (t305 != 0) = false := bne_eq_false_iff_eq.mpr c11
          clear c11
          (first | rw [c11b0] | (simp only [i64_w, i32_w]; rw [c11b0]) | skip)
          have H' := Aside0.mk H
          clear H
          go_wp2
          go_meet
          case rel => exact ⟨_, (decide ((t304.size : Int) > 4096)), (by first | rfl | (simp; done) | (simp [*]; done)), H', ⟨by first | omega | exact Nat.le_refl _⟩, ⟨by repeat (first | (with_reducible first | exact HB.out | apply below_alloc | apply pw_below_drewN | apply below_drew1) | exact HB.out)⟩⟩
        · rw [if_neg c11] at H
          have c11b0 : (t305 == 0) = false := beq_eq_false_iff_ne.mpr c11
          have c11b1 : (t305 != 0) = true := bne_iff_ne.mpr c11
          (first | rw [c11b0] | (simp only [i64_w, i32_w]; rw [c11b0]) | skip)
          have H' := Aside0.mk H
          clear H
          go_wp2
          go_meet
          case rel => exact ⟨_, (true), (by first | rfl | (simp; done) | (simp [*]; done)), H', ⟨by first | omega | exact Nat.le_refl _⟩, ⟨by repeat (first | (with_reducible first | exact HB.out | apply below_alloc | apply pw_below_drewN | apply below_drew1) | exact HB.out)⟩⟩
      case rest =>
        clear HC8
        try clear c1
        try clear p2
        try clear c4
        try clear c5
        try clear c5b0
        try clear c5b1
        try clear c6
        try clear c9
        try clear c11
        try clear c11b0
        try clear c11b1
        obtain ⟨kq, x30_7, rfl, HA, HJ7, HB⟩ := hcut
        cases kq with
        | zero => exact absurd HA.out (by simp [fletchlaw21_ScriptWords.j0])
        | succ kj7 =>
          have H := HA.out
          clear HA
          simp only [fletchlaw21_ScriptWords.j0] at H
          by_cases c12 : x30_7 = true
          · subst c12
            have H1 : (some true) = some r := by rw [if_pos rfl] at H; exact H
            clear H
            have H := H1
            clear H1
            obtain rfl := Option.some.inj H
            go_wp2
            go_ret
            exact ⟨by first | rfl | (simp [errW_none, errW_some] <;> rfl) | (simp [*, errW_none, errW_some] <;> rfl), by repeat (first | (with_reducible first | exact HB.out | apply below_alloc | apply pw_below_drewN | apply below_drew1) | exact HB.out)⟩
          · replace c12 := Bool.eq_false_iff.mpr c12
            subst c12
            have H1 : (fletchlaw21_ScriptWords.l0 kj7 l0 l1 t304 (⟨#[]⟩ : ByteArray) 0 0) = some r := by rw [if_neg (show ¬ (false = true) by decide)] at H; exact H
            clear H
            have H := H1
            clear H1
            have H' := Aside0.mk H
            clear H
            go_wp2
            go_loopg [7, 8, 9] kj7 (fun kq v7 v8 v9 w' => ∃ (x7_2 : ByteArray) (x8_2 : Int) (x9_2 : Int), v7 = .string x7_2 ∧ v8 = .int .i64 x8_2 ∧ v9 = .int .i64 x9_2 ∧ Aside0 (fletchlaw21_ScriptWords.l0 kq l0 l1 t304 x7_2 x8_2 x9_2 = some r) ∧ Aside0 (kq ≤ kj7) ∧ Aside0 (Below w.heap.size w w'))
            case atStart => exact ⟨((⟨#[]⟩ : ByteArray)), (0), (0), (by first | rfl | (simp; done) | (simp [*]; done)), (by first | rfl | (simp; done) | (simp [*]; done)), (by first | rfl | (simp; done) | (simp [*]; done)), H', ⟨Nat.le_refl _⟩, ⟨by repeat (first | (with_reducible first | exact HB.out | apply below_alloc | apply pw_below_drewN | apply below_drew1) | exact HB.out)⟩⟩
            case round =>
              clear H'
              try clear c1
              try clear p2
              try clear c4
              try clear c5
              try clear c5b0
              try clear c5b1
              try clear c6
              try clear c9
              try clear c11
              try clear c11b0
              try clear c11b1
              try clear c12
              try clear p2
              obtain ⟨x7_2, x8_2, x9_2, rfl, rfl, rfl, HA, HK2, HB⟩ := hrel
              cases gk with
              | zero => exact absurd HA.out (by simp [fletchlaw21_ScriptWords.l0])
              | succ k2 =>
                have H := HA.out
                clear HA
                simp only [fletchlaw21_ScriptWords.l0] at H
                by_cases c13 : x9_2 < (t304.size : Int)
                · rw [if_pos c13] at H
                  have c13b0 : decide (x9_2 < (t304.size : Int)) = true := decide_eq_true c13
                  clear c13
                  have HC14 := Aside0.mk H
                  clear H
                  go_upto_region 14 with (fail)
                  go_cut [52] (fun v52 wc => ∃ (kq : Nat) (x52_13 : Bool), v52 = .bool x52_13 ∧ Aside0 (fletchlaw21_ScriptWords.j2 kq l0 l1 t304 x7_2 x8_2 x9_2 0 x52_13 = some r) ∧ Aside0 (kq ≤ k2) ∧ Aside0 (Below w.heap.size w wc))
                  case first =>
                    have H := HC14.out
                    clear HC14
                    by_cases c15 : x8_2 < (l1.length : Int)
                    · rw [if_pos c15] at H
                      have c15b0 : decide (x8_2 < (l1.length : Int)) = true := decide_eq_true c15
                      clear c15
                      (first | rw [c15b0] | (simp only [i64_w, i32_w]; rw [c15b0]) | skip)
                      by_cases c16 : 0 ≤ x9_2
                      · rw [if_pos c16] at H
                        have c16b0 : decide (0 ≤ x9_2) = true := decide_eq_true c16
                        clear c16
                        by_cases c18 : (bt t304 x9_2) = 32
                        · rw [if_pos c18] at H
                          have c18b0 : ((bt t304 x9_2) == 32) = true := beq_iff_eq.mpr c18
                          have c18b1 : ((bt t304 x9_2) != 32) = false := bne_eq_false_iff_eq.mpr c18
                          clear c18
                          have H' := Aside0.mk H
                          clear H
                          have p17 : 0 ≤ (x9_2 : Int) := of_decide_eq_true (by first | (with_reducible assumption) | assumption)
                          have q17 : x9_2 < (t304.size : Int) := of_decide_eq_true (by first | (with_reducible assumption) | assumption)
                          have hx17 := bt_at t304 x9_2
                          replace p17 := eq_true p17
                          replace q17 := eq_true q17
                          go_wp2
                          go_meet
                          case rel => exact ⟨_, (true), (by first | rfl | (simp; done) | (simp [*]; done)), H', ⟨by have := HJ7.out; have := HK2.out; first | omega | exact Nat.le_refl _⟩, ⟨by repeat (first | (with_reducible first | exact HB.out | apply below_alloc | apply pw_below_drewN | apply below_drew1) | exact HB.out)⟩⟩
                        · rw [if_neg c18] at H
                          have c18b0 : ((bt t304 x9_2) == 32) = false := beq_eq_false_iff_ne.mpr c18
                          have c18b1 : ((bt t304 x9_2) != 32) = true := bne_iff_ne.mpr c18
                          have H' := Aside0.mk H
                          clear H
                          have p17 : 0 ≤ (x9_2 : Int) := of_decide_eq_true (by first | (with_reducible assumption) | assumption)
                          have q17 : x9_2 < (t304.size : Int) := of_decide_eq_true (by first | (with_reducible assumption) | assumption)
                          have hx17 := bt_at t304 x9_2
                          replace p17 := eq_true p17
                          replace q17 := eq_true q17
                          have p19 : 0 ≤ (x9_2 : Int) := of_decide_eq_true (by first | (with_reducible assumption) | assumption)
                          have q19 : x9_2 < (t304.size : Int) := of_decide_eq_true (by first | (with_reducible assumption) | assumption)
                          have hx19 := bt_at t304 x9_2
                          replace p19 := eq_true p19
                          replace q19 := eq_true q19
                          go_wp2
                          go_meet
                          case rel => exact ⟨_, (((bt t304 x9_2) == 10)), (by first | rfl | (simp; done) | (simp [*]; done)), H', ⟨by have := HJ7.out; have := HK2.out; first | omega | exact Nat.le_refl _⟩, ⟨by repeat (first | (with_reducible first | exact HB.out | apply below_alloc | apply pw_below_drewN | apply below_drew1) | exact HB.out)⟩⟩
                      · rw [if_neg c16] at H
                        exact absurd H (by simp)
                    · rw [if_neg c15] at H
                      have c15b0 : decide (x8_2 < (l1.length : Int)) = false := decide_eq_false c15
                      clear c15
                      (first | rw [c15b0] | (simp only [i64_w, i32_w]; rw [c15b0]) | skip)
                      have H' := Aside0.mk H
                      clear H
                      go_wp2
                      go_meet
                      case rel => exact ⟨_, (false), (by first | rfl | (simp; done) | (simp [*]; done)), H', ⟨by have := HJ7.out; have := HK2.out; first | omega | exact Nat.le_refl _⟩, ⟨by repeat (first | (with_reducible first | exact HB.out | apply below_alloc | apply pw_below_drewN | apply below_drew1) | exact HB.out)⟩⟩
                  case rest =>
                    clear HC14
                    try clear c1
                    try clear p1
                    try clear q1
                    try clear hx1
                    try clear p2
                    try clear c4
                    try clear c5
                    try clear c5b0
                    try clear c5b1
                    try clear c6
                    try clear c9
                    try clear c11
                    try clear c11b0
                    try clear c11b1
                    try clear c12
                    try clear c13
                    try clear c13b0
                    try clear c15
                    try clear c15b0
                    try clear c16
                    try clear c16b0
                    try clear p17
                    try clear q17
                    try clear hx17
                    try clear c18
                    try clear c18b0
                    try clear c18b1
                    try clear p19
                    try clear q19
                    try clear hx19
                    try clear p17
                    try clear p19
                    try clear p2
                    try clear q17
                    try clear q19
                    obtain ⟨kq, x52_13, rfl, HA, HJ13, HB⟩ := hcut
                    cases kq with
                    | zero => exact absurd HA.out (by simp [fletchlaw21_ScriptWords.j2])
                    | succ kj13 =>
                      have H := HA.out
                      clear HA
                      simp only [fletchlaw21_ScriptWords.j2] at H
                      have HC20 := Aside0.mk H
                      clear H
                      go_upto_if 52 with (fail)
                      go_cut [8, 10] (fun v8 v10 wc => ∃ (kq : Nat) (x8_19 : Int) (x10_19 : Int), v8 = .int .i64 x8_19 ∧ v10 = .int .i64 x10_19 ∧ Aside0 (fletchlaw21_ScriptWords.j3 kq l0 l1 t304 x7_2 x8_19 x9_2 x10_19 = some r) ∧ Aside0 (kq ≤ kj13) ∧ Aside0 (Below w.heap.size w wc))
                      case first =>
                        have H := HC20.out
                        clear HC20
                        by_cases c21 : x52_13 = true
                        · subst c21
                          have H1 : (if 0 ≤ x8_2 then (if x8_2 < (l1.length : Int) then (fletchlaw21_ScriptWords.j3 kj13 l0 l1 t304 x7_2 (wrap64 (x8_2 + 1)) x9_2 (Go.bits .and .i64 (rd l1 x8_2) 3)) else (none)) else (none)) = some r := by rw [if_pos rfl] at H; exact H
                          clear H
                          have H := H1
                          clear H1
                          by_cases c22 : 0 ≤ x8_2
                          · rw [if_pos c22] at H
                            have c22b0 : decide (0 ≤ x8_2) = true := decide_eq_true c22
                            clear c22
                            (first | rw [c22b0] | (simp only [i64_w, i32_w]; rw [c22b0]) | skip)
                            by_cases c23 : x8_2 < (l1.length : Int)
                            · rw [if_pos c23] at H
                              have c23b0 : decide (x8_2 < (l1.length : Int)) = true := decide_eq_true c23
                              clear c23
                              have H' := Aside0.mk H
                              clear H
                              have p312 : 0 ≤ (x8_2 : Int) := of_decide_eq_true (by first | (with_reducible assumption) | assumption)
                              have q312 : x8_2 < (l1.length : Int) := of_decide_eq_true (by first | (with_reducible assumption) | assumption)
                              obtain ⟨ad312, e312, hx312_0⟩ := Kd.at_int HR1.out x8_2 p312 q312
                              cases e312
                              replace hx312_0 := (HB.out.cell (World.block_lt_of_cell? w _ hx312_0)).trans hx312_0
                              replace p312 := eq_true p312
                              replace q312 := eq_true q312
                              go_wp2
                              go_meet
                              case rel => exact ⟨_, (wrap64 (x8_2 + 1)), (Go.bits .and .i64 (rd l1 x8_2) 3), (by first | rfl | (simp; done) | (simp [*]; done)), (by first | rfl | (simp; done) | (simp [*]; done)), H', ⟨by have := HJ7.out; have := HK2.out; have := HJ13.out; first | omega | exact Nat.le_refl _⟩, ⟨by repeat (first | (with_reducible first | exact HB.out | apply below_alloc | apply pw_below_drewN | apply below_drew1) | exact HB.out)⟩⟩
                            · rw [if_neg c23] at H
                              exact absurd H (by simp)
                          · rw [if_neg c22] at H
                            exact absurd H (by simp)
                        · replace c21 := Bool.eq_false_iff.mpr c21
                          subst c21
                          have H1 : (fletchlaw21_ScriptWords.j3 kj13 l0 l1 t304 x7_2 x8_2 x9_2 0) = some r := by rw [if_neg (show ¬ (false = true) by decide)] at H; exact H
                          clear H
                          have H := H1
                          clear H1
                          have H' := Aside0.mk H
                          clear H
                          go_wp2
                          go_meet
                          case rel => exact ⟨_, (x8_2), (0), (by first | rfl | (simp; done) | (simp [*]; done)), (by first | rfl | (simp; done) | (simp [*]; done)), H', ⟨by have := HJ7.out; have := HK2.out; have := HJ13.out; first | omega | exact Nat.le_refl _⟩, ⟨by repeat (first | (with_reducible first | exact HB.out | apply below_alloc | apply pw_below_drewN | apply below_drew1) | exact HB.out)⟩⟩
                      case rest =>
                        clear HC20
                        try clear c1
                        try clear p1
                        try clear q1
                        try clear hx1
                        try clear c2
                        try clear p2
                        try clear p3
                        try clear q3
                        try clear hx3
                        try clear c4
                        try clear c5
                        try clear c5b0
                        try clear c5b1
                        try clear c6
                        try clear p6
                        try clear c9
                        try clear c11
                        try clear c11b0
                        try clear c11b1
                        try clear c12
                        try clear c13
                        try clear c13b0
                        try clear c15
                        try clear c15b0
                        try clear c16
                        try clear c16b0
                        try clear p17
                        try clear q17
                        try clear hx17
                        try clear c18
                        try clear c18b0
                        try clear c18b1
                        try clear p19
                        try clear q19
                        try clear hx19
                        try clear c21
                        try clear c22
                        try clear c22b0
                        try clear c23
                        try clear c23b0
                        try clear hx312_0
                        try clear p1
                        try clear p17
                        try clear p19
                        try clear p2
                        try clear p312
                        try clear q1
                        try clear q17
                        try clear q19
                        try clear q312
                        obtain ⟨kq, x8_19, x10_19, rfl, rfl, HA, HJ19, HB⟩ := hcut
                        cases kq with
                        | zero => exact absurd HA.out (by simp [fletchlaw21_ScriptWords.j3])
                        | succ kj19 =>
                          have H := HA.out
                          clear HA
                          simp only [fletchlaw21_ScriptWords.j3] at H
                          have H' := Aside0.mk H
                          clear H
                          go_wp2
                          go_loopg [7, 11] kj19 (fun kq v7 v11 w' => ∃ (x7_5 : ByteArray) (x11_5 : Int), v7 = .string x7_5 ∧ v11 = .int .i64 x11_5 ∧ Aside0 (fletchlaw21_ScriptWords.l1 kq l0 l1 t304 x7_5 x8_19 x9_2 x10_19 x11_5 = some r) ∧ Aside0 (kq ≤ kj19) ∧ Aside0 (Below w.heap.size w w'))
                          case atStart => exact ⟨(x7_2), (0), (by first | rfl | (simp; done) | (simp [*]; done)), (by first | rfl | (simp; done) | (simp [*]; done)), H', ⟨Nat.le_refl _⟩, ⟨by repeat (first | (with_reducible first | exact HB.out | apply below_alloc | apply pw_below_drewN | apply below_drew1) | exact HB.out)⟩⟩
                          case round =>
                            clear H'
                            try clear c1
                            try clear p1
                            try clear q1
                            try clear hx1
                            try clear c2
                            try clear p2
                            try clear p3
                            try clear q3
                            try clear hx3
                            try clear c4
                            try clear c5
                            try clear c5b0
                            try clear c5b1
                            try clear c6
                            try clear p6
                            try clear c9
                            try clear c11
                            try clear c11b0
                            try clear c11b1
                            try clear c12
                            try clear c13
                            try clear c13b0
                            try clear c15
                            try clear c15b0
                            try clear c16
                            try clear c16b0
                            try clear p17
                            try clear q17
                            try clear hx17
                            try clear c18
                            try clear c18b0
                            try clear c18b1
                            try clear p19
                            try clear q19
                            try clear hx19
                            try clear c21
                            try clear c22
                            try clear c22b0
                            try clear c23
                            try clear c23b0
                            try clear hx312_0
                            try clear p1
                            try clear p17
                            try clear p19
                            try clear p2
                            try clear p3
                            try clear p312
                            try clear p6
                            try clear q1
                            try clear q17
                            try clear q19
                            try clear q3
                            try clear q312
                            obtain ⟨x7_5, x11_5, rfl, rfl, HA, HK5, HB⟩ := hrel
                            cases gk with
                            | zero => exact absurd HA.out (by simp [fletchlaw21_ScriptWords.l1])
                            | succ k5 =>
                              have H := HA.out
                              clear HA
                              simp only [fletchlaw21_ScriptWords.l1] at H
                              by_cases c24 : x11_5 < x10_19
                              · rw [if_pos c24] at H
                                have c24b0 : decide (x11_5 < x10_19) = true := decide_eq_true c24
                                clear c24
                                by_cases c25 : x7_5.size + 1 ≤ 9223372036854775807
                                · rw [if_pos c25] at H
                                  have c25b0 := eq_true c25
                                  have c25b1 : decide (x7_5.size + 1 ≤ 9223372036854775807) = true := decide_eq_true c25
                                  try have c25b2 : (9223372036854775807 < x7_5.size + 1) = False := eq_false (Nat.not_lt.2 c25)
                                  have H' := Aside0.mk H
                                  clear H
                                  go_wp2
                                  go_roundg k5
                                  case measure => have := HJ7.out; have := HK2.out; have := HJ13.out; have := HJ19.out; have := HK5.out; omega
                                  case rel => exact ⟨(x7_5 ++ (⟨#[32]⟩ : ByteArray)), (wrap64 (x11_5 + 1)), (by first | rfl | (simp; done) | (simp [*]; done)), (by first | rfl | (simp; done) | (simp [*]; done)), H', ⟨by have := HJ7.out; have := HK2.out; have := HJ13.out; have := HJ19.out; have := HK5.out; omega⟩, ⟨by repeat (first | (with_reducible first | exact HB.out | apply below_alloc | apply pw_below_drewN | apply below_drew1) | exact HB.out)⟩⟩
                                · rw [if_neg c25] at H
                                  exact absurd H (by simp)
                              · rw [if_neg c24] at H
                                have c24b0 : decide (x11_5 < x10_19) = false := decide_eq_false c24
                                clear c24
                                by_cases c26 : 0 ≤ x9_2
                                · rw [if_pos c26] at H
                                  have c26b0 := eq_true c26
                                  have c26b1 : decide (0 ≤ x9_2) = true := decide_eq_true c26
                                  clear c26
                                  by_cases c27 : x9_2 ≤ (wrap64 (x9_2 + 1))
                                  · rw [if_pos c27] at H
                                    have c27b0 := eq_true c27
                                    have c27b1 : decide (x9_2 ≤ (wrap64 (x9_2 + 1))) = true := decide_eq_true c27
                                    by_cases c28 : (wrap64 (x9_2 + 1)) ≤ (t304.size : Int)
                                    · rw [if_pos c28] at H
                                      have c28b0 := eq_true c28
                                      have c28b1 : decide ((wrap64 (x9_2 + 1)) ≤ (t304.size : Int)) = true := decide_eq_true c28
                                      by_cases c29 : x7_5.size + (t304.extract (x9_2 : Int).toNat ((wrap64 (x9_2 + 1)) : Int).toNat).size ≤ 9223372036854775807
                                      · rw [if_pos c29] at H
                                        have c29b0 := eq_true c29
                                        have c29b1 : decide (x7_5.size + (t304.extract (x9_2 : Int).toNat ((wrap64 (x9_2 + 1)) : Int).toNat).size ≤ 9223372036854775807) = true := decide_eq_true c29
                                        try have c29b2 : (9223372036854775807 < x7_5.size + (t304.extract (x9_2 : Int).toNat ((wrap64 (x9_2 + 1)) : Int).toNat).size) = False := eq_false (Nat.not_lt.2 c29)
                                        by_cases c30 : x9_2 < (t304.size : Int)
                                        · rw [if_pos c30] at H
                                          have c30b0 : decide (x9_2 < (t304.size : Int)) = true := decide_eq_true c30
                                          clear c30
                                          by_cases c32 : (bt t304 x9_2) = 10
                                          · rw [if_pos c32] at H
                                            have c32b0 : ((bt t304 x9_2) == 10) = true := beq_iff_eq.mpr c32
                                            have c32b1 : ((bt t304 x9_2) != 10) = false := bne_eq_false_iff_eq.mpr c32
                                            clear c32
                                            by_cases c33 : x10_19 > 1
                                            · rw [if_pos c33] at H
                                              have c33b0 : decide (1 < x10_19) = true := decide_eq_true c33
                                              clear c33
                                              by_cases c34 : (x7_5 ++ (t304.extract (x9_2 : Int).toNat ((wrap64 (x9_2 + 1)) : Int).toNat)).size + 1 ≤ 9223372036854775807
                                              · rw [if_pos c34] at H
                                                have c34b0 := eq_true c34
                                                have c34b1 : decide ((x7_5 ++ (t304.extract (x9_2 : Int).toNat ((wrap64 (x9_2 + 1)) : Int).toNat)).size + 1 ≤ 9223372036854775807) = true := decide_eq_true c34
                                                have c34n := c34
                                                simp [ByteArray.size_append] at c34n
                                                have c34n0 := eq_true c34n
                                                have c34n1 := decide_eq_true c34n
                                                have c34n2 := eq_false (Nat.not_lt.2 c34n)
                                                try have c34b2 : (9223372036854775807 < (x7_5 ++ (t304.extract (x9_2 : Int).toNat ((wrap64 (x9_2 + 1)) : Int).toNat)).size + 1) = False := eq_false (Nat.not_lt.2 c34)
                                                have H' := Aside0.mk H
                                                clear H
                                                have p31 : 0 ≤ (x9_2 : Int) := of_decide_eq_true (by first | (with_reducible assumption) | assumption)
                                                have q31 : x9_2 < (t304.size : Int) := of_decide_eq_true (by first | (with_reducible assumption) | assumption)
                                                have hx31 := bt_at t304 x9_2
                                                replace p31 := eq_true p31
                                                replace q31 := eq_true q31
                                                go_wp2
                                                go_roundg k5
                                                case measure => have := HJ7.out; have := HK2.out; have := HJ13.out; have := HJ19.out; have := HK5.out; omega
                                                case rel => exact ⟨((x7_5 ++ (t304.extract (x9_2 : Int).toNat ((wrap64 (x9_2 + 1)) : Int).toNat)) ++ (⟨#[10]⟩ : ByteArray)), (x8_19), (wrap64 (x9_2 + 1)), (by first | rfl | (simp; done) | (simp [*]; done)), (by first | rfl | (simp; done) | (simp [*]; done)), (by first | rfl | (simp; done) | (simp [*]; done)), H', ⟨by have := HJ7.out; have := HK2.out; have := HJ13.out; have := HJ19.out; have := HK5.out; omega⟩, ⟨by repeat (first | (with_reducible first | exact HB.out | apply below_alloc | apply pw_below_drewN | apply below_drew1) | exact HB.out)⟩⟩
                                              · rw [if_neg c34] at H
                                                exact absurd H (by simp)
                                            · rw [if_neg c33] at H
                                              have c33b0 : decide (1 < x10_19) = false := decide_eq_false c33
                                              clear c33
                                              have H' := Aside0.mk H
                                              clear H
                                              have p31 : 0 ≤ (x9_2 : Int) := of_decide_eq_true (by first | (with_reducible assumption) | assumption)
                                              have q31 : x9_2 < (t304.size : Int) := of_decide_eq_true (by first | (with_reducible assumption) | assumption)
                                              have hx31 := bt_at t304 x9_2
                                              replace p31 := eq_true p31
                                              replace q31 := eq_true q31
                                              go_wp2
                                              go_roundg k5
                                              case measure => have := HJ7.out; have := HK2.out; have := HJ13.out; have := HJ19.out; have := HK5.out; omega
                                              case rel => exact ⟨(x7_5 ++ (t304.extract (x9_2 : Int).toNat ((wrap64 (x9_2 + 1)) : Int).toNat)), (x8_19), (wrap64 (x9_2 + 1)), (by first | rfl | (simp; done) | (simp [*]; done)), (by first | rfl | (simp; done) | (simp [*]; done)), (by first | rfl | (simp; done) | (simp [*]; done)), H', ⟨by have := HJ7.out; have := HK2.out; have := HJ13.out; have := HJ19.out; have := HK5.out; omega⟩, ⟨by repeat (first | (with_reducible first | exact HB.out | apply below_alloc | apply pw_below_drewN | apply below_drew1) | exact HB.out)⟩⟩
                                          · rw [if_neg c32] at H
                                            have c32b0 : ((bt t304 x9_2) == 10) = false := beq_eq_false_iff_ne.mpr c32
                                            have c32b1 : ((bt t304 x9_2) != 10) = true := bne_iff_ne.mpr c32
                                            have H' := Aside0.mk H
                                            clear H
                                            have p31 : 0 ≤ (x9_2 : Int) := of_decide_eq_true (by first | (with_reducible assumption) | assumption)
                                            have q31 : x9_2 < (t304.size : Int) := of_decide_eq_true (by first | (with_reducible assumption) | assumption)
                                            have hx31 := bt_at t304 x9_2
                                            replace p31 := eq_true p31
                                            replace q31 := eq_true q31
                                            go_wp2
                                            go_roundg k5
                                            case measure => have := HJ7.out; have := HK2.out; have := HJ13.out; have := HJ19.out; have := HK5.out; omega
                                            case rel => exact ⟨(x7_5 ++ (t304.extract (x9_2 : Int).toNat ((wrap64 (x9_2 + 1)) : Int).toNat)), (x8_19), (wrap64 (x9_2 + 1)), (by first | rfl | (simp; done) | (simp [*]; done)), (by first | rfl | (simp; done) | (simp [*]; done)), (by first | rfl | (simp; done) | (simp [*]; done)), H', ⟨by have := HJ7.out; have := HK2.out; have := HJ13.out; have := HJ19.out; have := HK5.out; omega⟩, ⟨by repeat (first | (with_reducible first | exact HB.out | apply below_alloc | apply pw_below_drewN | apply below_drew1) | exact HB.out)⟩⟩
                                        · rw [if_neg c30] at H
                                          exact absurd H (by simp)
                                      · rw [if_neg c29] at H
                                        exact absurd H (by simp)
                                    · rw [if_neg c28] at H
                                      exact absurd H (by simp)
                                  · rw [if_neg c27] at H
                                    exact absurd H (by simp)
                                · rw [if_neg c26] at H
                                  exact absurd H (by simp)
                · rw [if_neg c13] at H
                  have c13b0 : decide (x9_2 < (t304.size : Int)) = false := decide_eq_false c13
                  clear c13
                  by_cases c35 : 1 + x7_2.size ≤ 9223372036854775807
                  · rw [if_pos c35] at H
                    have c35b0 := eq_true c35
                    have c35b1 : decide (1 + x7_2.size ≤ 9223372036854775807) = true := decide_eq_true c35
                    try have c35b2 : (9223372036854775807 < 1 + x7_2.size) = False := eq_false (Nat.not_lt.2 c35)
                    replace H := Option.bind_eq_some_iff.mp H
                    obtain ⟨⟨t306, t307, t308⟩, A360, H⟩ := H
                    replace H : (if t307 = 0 then (if t308 = 0 then ((fletchlaw21_sameSteps.f k2 t306 l0).bind fun t311 => (some t311)) else (some false)) else (some false)) = some r := H
                    have A36 := Aside0.mk A360
                    clear A360
                    by_cases c37 : t307 = 0
                    · rw [if_pos c37] at H
                      have c37b0 : (t307 == 0) = true := beq_iff_eq.mpr c37
                      have c37b1 : (t307 != 0) = false := bne_eq_false_iff_eq.mpr c37
                      clear c37
                      by_cases c38 : t308 = 0
                      · rw [if_pos c38] at H
                        have c38b0 : (t308 == 0) = true := beq_iff_eq.mpr c38
                        have c38b1 : (t308 != 0) = false := bne_eq_false_iff_eq.mpr c38
                        clear c38
                        replace H := Option.bind_eq_some_iff.mp H
                        obtain ⟨t311, A390, H⟩ := H
                        replace H : (some t311) = some r := H
                        have A39 := Aside0.mk A390
                        clear A390
                        obtain rfl := Option.some.inj H
                        go_wp2_with (first | ((with_reducible refine gate_callee (f := 10) rfl ?_); refine goesL_ (some 87) rfl rfl Tryd.func10 (by kernel_rfl) rfl #[.string ((⟨#[32]⟩ : ByteArray) ++ x7_2)] rfl (by (try simp only [List.map_toArray, List.map_cons, List.map_nil]); first | done | rfl | (simp only [List.length_drop, List.length_take]; rfl)) ?_; (with_reducible refine (script_Parse.calls ((⟨#[32]⟩ : ByteArray) ++ x7_2) t306 t307 t308 _ A36.out).mono ?_); rintro e w40 ⟨v309, rfl, ho0, hb⟩; refine ⟨_, rfl, ?_⟩; have n0_ := Aside0.mk (Kd.R_lower ho0 (below_size (by repeat (first | (with_reducible first | exact HB.out | apply below_alloc | apply pw_below_drewN | apply below_drew1) | exact HB.out)))); have n1_ := Aside0.mk (below_step (by repeat (first | (with_reducible first | exact HB.out | apply below_alloc | apply pw_below_drewN | apply below_drew1) | exact HB.out)) hb); clear HB; have HO310 := n0_; have HB := n1_; clear n0_ n1_; (try clear hb); (try clear hb2); (try clear hk); (try clear hi); (try clear ho0); obtain ⟨Ao41, co41, eo41⟩ := Kd.R_slice HO310.out; subst eo41) | (go_at_call 12; (with_reducible refine (fletchlaw21_sameSteps.calls k2 _ _ t306 _ _ l0 t311 _ ?side1 ?side2 ?side3 ?side4 A39.out).mono ?_); (case side1 => repeat (first | exact (Kd.R_reads' HO310.out).2.2 | (with_reducible refine Kd.C_alloc ?_ _) | (with_reducible refine Kd.C_drewN ?_ _) | (with_reducible refine Kd.C_drew ?_))); (case side2 => exact (Kd.R_reads' HO310.out).2.1); (case side3 => repeat (first | exact (Kd.C_below HR0.out HB.out) | (with_reducible refine Kd.C_alloc ?_ _) | (with_reducible refine Kd.C_drewN ?_ _) | (with_reducible refine Kd.C_drew ?_))); (case side4 => exact HC0.out); rintro e w' ⟨rfl, ⟨nd, rfl⟩⟩))
                        go_ret
                        exact ⟨by first | rfl | (simp [errW_none, errW_some] <;> rfl) | (simp [*, errW_none, errW_some] <;> rfl), by repeat (first | (with_reducible first | exact HB.out | apply below_alloc | apply pw_below_drewN | apply below_drew1) | exact HB.out)⟩
                      · rw [if_neg c38] at H
                        have c38b0 : (t308 == 0) = false := beq_eq_false_iff_ne.mpr c38
                        have c38b1 : (t308 != 0) = true := bne_iff_ne.mpr c38
                        obtain rfl := Option.some.inj H
                        go_wp2_with (first | ((with_reducible refine gate_callee (f := 10) rfl ?_); refine goesL_ (some 87) rfl rfl Tryd.func10 (by kernel_rfl) rfl #[.string ((⟨#[32]⟩ : ByteArray) ++ x7_2)] rfl (by (try simp only [List.map_toArray, List.map_cons, List.map_nil]); first | done | rfl | (simp only [List.length_drop, List.length_take]; rfl)) ?_; (with_reducible refine (script_Parse.calls ((⟨#[32]⟩ : ByteArray) ++ x7_2) t306 t307 t308 _ A36.out).mono ?_); rintro e w42 ⟨v309, rfl, ho0, hb⟩; refine ⟨_, rfl, ?_⟩; have n0_ := Aside0.mk (Kd.R_lower ho0 (below_size (by repeat (first | (with_reducible first | exact HB.out | apply below_alloc | apply pw_below_drewN | apply below_drew1) | exact HB.out)))); have n1_ := Aside0.mk (below_step (by repeat (first | (with_reducible first | exact HB.out | apply below_alloc | apply pw_below_drewN | apply below_drew1) | exact HB.out)) hb); clear HB; have HO310 := n0_; have HB := n1_; clear n0_ n1_; (try clear hb); (try clear hb2); (try clear hk); (try clear hi); (try clear ho0)))
                        go_ret
                        exact ⟨by first | rfl | (simp [errW_none, errW_some] <;> rfl) | (simp [*, errW_none, errW_some] <;> rfl), by repeat (first | (with_reducible first | exact HB.out | apply below_alloc | apply pw_below_drewN | apply below_drew1) | exact HB.out)⟩
                    · rw [if_neg c37] at H
                      have c37b0 : (t307 == 0) = false := beq_eq_false_iff_ne.mpr c37
                      have c37b1 : (t307 != 0) = true := bne_iff_ne.mpr c37
                      obtain rfl := Option.some.inj H
                      go_wp2_with (first | ((with_reducible refine gate_callee (f := 10) rfl ?_); refine goesL_ (some 87) rfl rfl Tryd.func10 (by kernel_rfl) rfl #[.string ((⟨#[32]⟩ : ByteArray) ++ x7_2)] rfl (by (try simp only [List.map_toArray, List.map_cons, List.map_nil]); first | done | rfl | (simp only [List.length_drop, List.length_take]; rfl)) ?_; (with_reducible refine (script_Parse.calls ((⟨#[32]⟩ : ByteArray) ++ x7_2) t306 t307 t308 _ A36.out).mono ?_); rintro e w43 ⟨v309, rfl, ho0, hb⟩; refine ⟨_, rfl, ?_⟩; have n0_ := Aside0.mk (Kd.R_lower ho0 (below_size (by repeat (first | (with_reducible first | exact HB.out | apply below_alloc | apply pw_below_drewN | apply below_drew1) | exact HB.out)))); have n1_ := Aside0.mk (below_step (by repeat (first | (with_reducible first | exact HB.out | apply below_alloc | apply pw_below_drewN | apply below_drew1) | exact HB.out)) hb); clear HB; have HO310 := n0_; have HB := n1_; clear n0_ n1_; (try clear hb); (try clear hb2); (try clear hk); (try clear hi); (try clear ho0)))
                      go_ret
                      exact ⟨by first | rfl | (simp [errW_none, errW_some] <;> rfl) | (simp [*, errW_none, errW_some] <;> rfl), by repeat (first | (with_reducible first | exact HB.out | apply below_alloc | apply pw_below_drewN | apply below_drew1) | exact HB.out)⟩
                  · rw [if_neg c35] at H
                    exact absurd H (by simp)
  · replace c4 := Bool.eq_false_iff.mpr c4
    subst c4
    have H1 : (some false) = some r := by rw [if_neg (show ¬ (false = true) by decide)] at H; exact H
    clear H
    have H := H1
    clear H1
    obtain rfl := Option.some.inj H
    go_enter Tryd.func6, Tryd.ntmps6
    go_wp2_with (first | ((with_reducible refine gate_callee (f := 9) rfl ?_); refine goesL_ (some 14) rfl rfl Tryd.func9 (by kernel_rfl) rfl #[] rfl (by (try simp only [List.map_toArray, List.map_cons, List.map_nil]); first | done | rfl | (simp only [List.length_drop, List.length_take]; rfl)) ?_; (with_reducible refine (fletchlaw21_wakes.calls k  false _ ?side1 A3.out).mono ?_); (case side1 => repeat (first | (with_reducible exact HG_.out) | (with_reducible apply Glob.drewN) | (with_reducible apply Glob.drew) | (with_reducible apply Glob.alloc) | exact Glob.below HG_.out (by repeat (first | (with_reducible first | exact HB.out | apply below_alloc | apply pw_below_drewN | apply below_drew1) | exact HB.out)) | exact HG_.out)); rintro e w44 ⟨rfl, hb⟩; refine ⟨_, rfl, ?_⟩; have n0_ := Aside0.mk (below_step (by repeat (first | (with_reducible first | exact HB.out | apply below_alloc | apply pw_below_drewN | apply below_drew1) | exact HB.out)) hb); clear HB; have HB := n0_; clear n0_; (try clear hb); (try clear hb2); (try clear hk); (try clear hi)))
    go_ret
    exact ⟨by first | rfl | (simp [errW_none, errW_some] <;> rfl) | (simp [*, errW_none, errW_some] <;> rfl), by repeat (first | (with_reducible first | exact HB.out | apply below_alloc | apply pw_below_drewN | apply below_drew1) | exact HB.out)⟩

end Go.Proofs.YtpeokbbidipdkaaDoor.Q
