-- Written by a program of the session (wip/tools/gprint.py over the kit's printer).
import Derived.Test.YtpeokbbidipdkaaDoorQ0
import Derived.Test.YtpeokbbidipdkaaDoorQ1
import Derived.Test.YtpeokbbidipdkaaDoorQ11
import Derived.Test.YtpeokbbidipdkaaDoorQ12
import Derived.Test.YtpeokbbidipdkaaDoorQ15
import Derived.Test.YtpeokbbidipdkaaDoorItoa
namespace Go.Proofs.YtpeokbbidipdkaaDoor.Q
open Go.RowKit Go.Proofs.YtpeokbbidipdkaaDoorW.PrintWords Go.Proofs.YtpeokbbidipdkaaDoorW.PrintLast Go.Proofs.YtpeokbbidipdkaaDoorW.PrintMore
attribute [local go_sem] max2_int min2_int max_two min_two max_three min_three max_four min_four   -- for this text's walks alone
set_option linter.unusedVariables false
set_option linter.unusedSimpArgs false

attribute [local go_sem high] eqA36
/-! ### fletchref21_Text: function 14 -/
mutual
def fletchref21_Text.l0 : Nat → ByteArray → List (S36) → Int → Int → Option (ByteArray × Int)
  | 0, _, _, _, _ => none
  | k + 1, x4, x12, x13, x14 => if x14 < x13 then (if 0 ≤ x14 then (if x14 < (x12.length : Int) then ((fletchref21_name.f ((rd_T36 x12 x14).f0)).bind fun t259 => (if t259.toList = ([] : List UInt8) then (some ((⟨#[]⟩ : ByteArray), 1)) else ((fletchref21_name.f ((rd_T36 x12 x14).f0)).bind fun t260 => ((fletchref21_told.f k ((rd_T36 x12 x14).f0) ((rd_T36 x12 x14).f1) ((rd_T36 x12 x14).f2) ((rd_T36 x12 x14).f3) ((rd_T36 x12 x14).f4)).bind fun t261 => (fletchref21_Text.l1 k x4 t260 x12 x13 x14 t261 (t261.length : Int) 0 ((rd_T36 x12 x14).f0) ((rd_T36 x12 x14).f1) ((rd_T36 x12 x14).f2) ((rd_T36 x12 x14).f3) ((rd_T36 x12 x14).f4)))))) else (none)) else (none)) else (some (x4, 0))
def fletchref21_Text.l1 : Nat → ByteArray → ByteArray → List (S36) → Int → Int → List Int → Int → Int → Int → Int → Int → Int → Int → Option (ByteArray × Int)
  | 0, _, _, _, _, _, _, _, _, _, _, _, _, _ => none
  | k + 1, x4, x7, x12, x13, x14, x26, x27, x28, x259000, x259001, x259002, x259003, x259004 => if x28 < x27 then (if 0 ≤ x28 then (if x28 < (x26.length : Int) then (if (rd x26 x28) > 999999999999999999 then (some ((⟨#[]⟩ : ByteArray), 1)) else (if (rd x26 x28) < (-999999999999999999) then (some ((⟨#[]⟩ : ByteArray), 1)) else (if x7.size + 1 ≤ 9223372036854775807 then ((strconv_Itoa_22.f (rd x26 x28)).bind fun t265 => (if (x7 ++ (⟨#[32]⟩ : ByteArray)).size + t265.size ≤ 9223372036854775807 then (fletchref21_Text.l1 k x4 ((x7 ++ (⟨#[32]⟩ : ByteArray)) ++ t265) x12 x13 x14 x26 x27 (wrap64 (x28 + 1)) x259000 x259001 x259002 x259003 x259004) else (none))) else (none)))) else (none)) else (none)) else ((fletchref21_told.f k x259000 x259001 x259002 x259003 x259004).bind fun t266 => ((fletchref21_made.f k x259000 t266).bind fun bt269 => (if bt269.2.2.2.2.2 = true then (if (!(bt269.1 == x259000) || (!(bt269.2.1 == x259001) || (!(bt269.2.2.1 == x259002) || (!(bt269.2.2.2.1 == x259003) || (!(bt269.2.2.2.2.1 == x259004)))))) = true then (some ((⟨#[]⟩ : ByteArray), 1)) else (if x4.size + x7.size ≤ 9223372036854775807 then (if (x4 ++ x7).size + 1 ≤ 9223372036854775807 then (fletchref21_Text.l0 k ((x4 ++ x7) ++ (⟨#[10]⟩ : ByteArray)) x12 x13 (wrap64 (x14 + 1))) else (none)) else (none))) else (some ((⟨#[]⟩ : ByteArray), 1)))))
end
def fletchref21_Text.f (k : Nat) (l0 : List (S36)) : Option (ByteArray × Int) := fletchref21_Text.l0 k (⟨#[]⟩ : ByteArray) l0 (l0.length : Int) 0
theorem fletchref21_Text.mono_l : ∀ k, (∀ y0 y1 y2 y3, LeO (fletchref21_Text.l0 k y0 y1 y2 y3) (fletchref21_Text.l0 (k + 1) y0 y1 y2 y3)) ∧ (∀ y0 y1 y2 y3 y4 y5 y6 y7 y8 y9 y10 y11 y12, LeO (fletchref21_Text.l1 k y0 y1 y2 y3 y4 y5 y6 y7 y8 y9 y10 y11 y12) (fletchref21_Text.l1 (k + 1) y0 y1 y2 y3 y4 y5 y6 y7 y8 y9 y10 y11 y12))
  | 0 => ⟨fun _ _ _ _ r h => by simp [fletchref21_Text.l0] at h, fun _ _ _ _ _ _ _ _ _ _ _ _ _ r h => by simp [fletchref21_Text.l1] at h⟩
  | k + 1 => by
    obtain ⟨ih0, ih1⟩ := fletchref21_Text.mono_l k
    refine ⟨?_, ?_⟩
    · intro y0 y1 y2 y3
      unfold fletchref21_Text.l0
      repeat' first
      | (with_reducible exact ih0 _ _ _ _)
      | (with_reducible exact ih1 _ _ _ _ _ _ _ _ _ _ _ _ _)
      | (with_reducible exact fletchref21_made.mono _ _ _)
      | (with_reducible exact fletchref21_told.mono _ _ _ _ _ _)
      | (with_reducible exact LeO.refl _)
      | (with_reducible exact LeO.none _)
      | (with_reducible refine LeO.ite ?_ ?_)
      | (with_reducible refine LeO.bind ?_ (fun _ => ?_))
      | exact ih0 _ _ _ _
      | exact ih1 _ _ _ _ _ _ _ _ _ _ _ _ _
      | exact fletchref21_made.mono _ _ _
      | exact fletchref21_told.mono _ _ _ _ _ _
      | exact LeO.none _
      | refine LeO.ite ?_ ?_
      | refine LeO.bind ?_ (fun _ => ?_)
    · intro y0 y1 y2 y3 y4 y5 y6 y7 y8 y9 y10 y11 y12
      unfold fletchref21_Text.l1
      repeat' first
      | (with_reducible exact ih0 _ _ _ _)
      | (with_reducible exact ih1 _ _ _ _ _ _ _ _ _ _ _ _ _)
      | (with_reducible exact fletchref21_made.mono _ _ _)
      | (with_reducible exact fletchref21_told.mono _ _ _ _ _ _)
      | (with_reducible exact LeO.refl _)
      | (with_reducible exact LeO.none _)
      | (with_reducible refine LeO.ite ?_ ?_)
      | (with_reducible refine LeO.bind ?_ (fun _ => ?_))
      | exact ih0 _ _ _ _
      | exact ih1 _ _ _ _ _ _ _ _ _ _ _ _ _
      | exact fletchref21_made.mono _ _ _
      | exact fletchref21_told.mono _ _ _ _ _ _
      | exact LeO.none _
      | refine LeO.ite ?_ ?_
      | refine LeO.bind ?_ (fun _ => ?_)
theorem fletchref21_Text.mono : ∀ a0 k, LeO (fletchref21_Text.f k a0) (fletchref21_Text.f (k + 1) a0) := by
  intro a0 k
  obtain ⟨ih0, ih1⟩ := fletchref21_Text.mono_l k
  unfold fletchref21_Text.f
  repeat' first
      | (with_reducible exact ih0 _ _ _ _)
      | (with_reducible exact ih1 _ _ _ _ _ _ _ _ _ _ _ _ _)
      | (with_reducible exact fletchref21_made.mono _ _ _)
      | (with_reducible exact fletchref21_told.mono _ _ _ _ _ _)
      | (with_reducible exact LeO.refl _)
      | (with_reducible exact LeO.none _)
      | (with_reducible refine LeO.ite ?_ ?_)
      | (with_reducible refine LeO.bind ?_ (fun _ => ?_))
      | exact ih0 _ _ _ _
      | exact ih1 _ _ _ _ _ _ _ _ _ _ _ _ _
      | exact fletchref21_made.mono _ _ _
      | exact fletchref21_told.mono _ _ _ _ _ _
      | exact LeO.none _
      | refine LeO.ite ?_ ?_
      | refine LeO.bind ?_ (fun _ => ?_)
def fletchref21_Text.T15 : Bool × List (List Nat × List Nat) := (true, [([], []), ([0], [0]), ([], []), ([2], [2]), ([1, 3, 3], [1, 3]), ([4], [4]), ([5], [5]), ([5], [5]), ([], []), ([8, 6, 4, 0, 1, 2, 3, 4, 5, 6, 8], [6, 8]), ([7, 9, 0, 1, 2, 3, 4, 5, 6, 7, 8, 9], [7])])
def fletchref21_Text.B15 : List Nat := [0, 1, 0, 4, 15, 31, 63, 63, 0, 383, 1023]
theorem fletchref21_Text.tab15 : rtab .any (opsOf Tryd.f14 15) = fletchref21_Text.T15 := by kernel_rfl
theorem fletchref21_Text.bits15 : waitsOk fletchref21_Text.T15.2 fletchref21_Text.B15 = true := by kernel_rfl
set_option maxHeartbeats 8000000 in
set_option maxRecDepth 100000 in
theorem fletchref21_Text.calls (k : Nat) (A0 : Option Addr) (c0 : Nat) (l0 : List (S36)) (r1 : ByteArray) (r2 : Int) (w : World) (hG_ : Glob w) (hr0 : Kd.C k36 w A0 l0.length l0) (hc0 : l0.length ≤ c0) (h : fletchref21_Text.f k l0 = some (r1, r2)) :
    Calls Tryd.prog 14 #[.slice A0 l0.length c0] w fun e w' => e = .returned (.tuple #[.string r1, .int .i64 r2]) ∧ Below w.heap.size w w' := by
  have HG_ := Aside0.mk hG_
  clear hG_
  have hu36 := Tryd.underlying36
  have HR0 := Aside0.mk hr0
  have HC0 := Aside0.mk hc0
  clear hr0 hc0
  have HB := Aside0.mk (Below.refl w.heap.size w)
  have H : (fletchref21_Text.l0 k (⟨#[]⟩ : ByteArray) l0 (l0.length : Int) 0) = some (r1, r2) := h
  clear h
  have H' := Aside0.mk H
  clear H
  go_enter Tryd.func14, Tryd.ntmps14
  go_wp2
  go_loopg [4, 14] k (fun kq v4 v14 w' => ∃ (x4_1 : ByteArray) (x14_1 : Int), v4 = .string x4_1 ∧ v14 = .int .i64 x14_1 ∧ Aside0 (fletchref21_Text.l0 kq x4_1 l0 (l0.length : Int) x14_1 = some (r1, r2)) ∧ Aside0 (kq ≤ k) ∧ Aside0 (Below w.heap.size w w'))
  case atStart => exact ⟨((⟨#[]⟩ : ByteArray)), (0), (by first | rfl | (simp; done) | (simp [*]; done)), (by first | rfl | (simp; done) | (simp [*]; done)), H', ⟨Nat.le_refl _⟩, ⟨by repeat (first | (with_reducible first | exact HB.out | apply below_alloc | apply pw_below_drewN | apply below_drew1) | exact HB.out)⟩⟩
  case round =>
    clear H'
    try clear c1
    obtain ⟨x4_1, x14_1, rfl, rfl, HA, HK1, HB⟩ := hrel
    cases gk with
    | zero => exact absurd HA.out (by simp [fletchref21_Text.l0])
    | succ k1 =>
      have H := HA.out
      clear HA
      simp only [fletchref21_Text.l0] at H
      by_cases c2 : x14_1 < (l0.length : Int)
      · rw [if_pos c2] at H
        have c2b0 : decide (x14_1 < (l0.length : Int)) = true := decide_eq_true c2
        clear c2
        by_cases c3 : 0 ≤ x14_1
        · rw [if_pos c3] at H
          have c3b0 : decide (0 ≤ x14_1) = true := decide_eq_true c3
          clear c3
          by_cases c4 : x14_1 < (l0.length : Int)
          · rw [if_pos c4] at H
            have c4b0 : decide (x14_1 < (l0.length : Int)) = true := decide_eq_true c4
            clear c4
            replace H := Option.bind_eq_some_iff.mp H
            obtain ⟨t259, A50, H⟩ := H
            replace H : (if t259.toList = ([] : List UInt8) then (some ((⟨#[]⟩ : ByteArray), 1)) else ((fletchref21_name.f ((rd_T36 l0 x14_1).f0)).bind fun t260 => ((fletchref21_told.f k1 ((rd_T36 l0 x14_1).f0) ((rd_T36 l0 x14_1).f1) ((rd_T36 l0 x14_1).f2) ((rd_T36 l0 x14_1).f3) ((rd_T36 l0 x14_1).f4)).bind fun t261 => (fletchref21_Text.l1 k1 x4_1 t260 l0 (l0.length : Int) x14_1 t261 (t261.length : Int) 0 ((rd_T36 l0 x14_1).f0) ((rd_T36 l0 x14_1).f1) ((rd_T36 l0 x14_1).f2) ((rd_T36 l0 x14_1).f3) ((rd_T36 l0 x14_1).f4))))) = some (r1, r2) := H
            have A5 := Aside0.mk A50
            clear A50
            by_cases c6 : t259.toList = ([] : List UInt8)
            · rw [if_pos c6] at H
              have c6b0 : (t259.toList == ([] : List UInt8)) = true := beq_iff_eq.mpr c6
              have c6b1 : (t259.toList != ([] : List UInt8)) = false := bne_eq_false_iff_eq.mpr c6
              clear c6
              simp only [Option.some.injEq, Prod.mk.injEq] at H
              obtain ⟨rfl, rfl⟩ := H
              have p257 : 0 ≤ (x14_1 : Int) := of_decide_eq_true (by first | (with_reducible assumption) | assumption)
              have q257 : x14_1 < (l0.length : Int) := of_decide_eq_true (by first | (with_reducible assumption) | assumption)
              obtain ⟨ad257, e257, hx257_0, hx257_1, hx257_2, hx257_3, hx257_4⟩ := at_T36 HR0.out x14_1 p257 q257
              cases e257
              replace hx257_0 := (HB.out.cell (World.block_lt_of_cell? w _ hx257_0)).trans hx257_0
              replace hx257_1 := (HB.out.cell (World.block_lt_of_cell? w _ hx257_1)).trans hx257_1
              replace hx257_2 := (HB.out.cell (World.block_lt_of_cell? w _ hx257_2)).trans hx257_2
              replace hx257_3 := (HB.out.cell (World.block_lt_of_cell? w _ hx257_3)).trans hx257_3
              replace hx257_4 := (HB.out.cell (World.block_lt_of_cell? w _ hx257_4)).trans hx257_4
              replace p257 := eq_true p257
              replace q257 := eq_true q257
              go_wp2_with (first | ((with_reducible refine gate_dst (N := 6) rfl ?_); refine box_event ?hg (N := 6) ?hd (cs := #[.int .i64 0, .int .i64 0, .int .i64 0, .int .i64 0, .int .i64 0]) (t := 36) ?hr ?_; (case hd => rfl); (case hg => rfl); (case hr => first | (go_simp; done) | (go_simp; rfl)); intro gb258 hg w7 hbox hb; have n0_ := Aside0.mk (below_step (by repeat (first | (with_reducible first | exact HB.out | apply below_alloc | apply pw_below_drewN | apply below_drew1) | exact HB.out)) hb); have n1_ := Aside0.mk (hbox); have n2_ := Aside0.mk ((by rw [hg]; exact (below_size (by repeat (first | (with_reducible first | exact HB.out | apply below_alloc | apply pw_below_drewN | apply below_drew1) | exact HB.out))) : w.heap.size ≤ gb258)); have n3_ := Aside0.mk ((by rw [hg]; exact (below_size (by repeat (first | (with_reducible first | exact HB.out | apply below_alloc | apply pw_below_drewN | apply below_drew1) | exact HB.out))) : w.heap.size ≤ gb258)); clear HB; have HB := n0_; have BK258 := n1_; have GW258 := n2_; have GE258 := n3_; clear n0_ n1_ n2_ n3_; clear hb hbox hg; have hcz8_0 : w7.cell? ⟨gb258, 0, none⟩ = some (.int .i64 0) := (blk_cell BK258.out 0).trans rfl; have hcz8_1 : w7.cell? ⟨gb258, 1, none⟩ = some (.int .i64 0) := (blk_cell BK258.out 1).trans rfl; have hcz8_2 : w7.cell? ⟨gb258, 2, none⟩ = some (.int .i64 0) := (blk_cell BK258.out 2).trans rfl; have hcz8_3 : w7.cell? ⟨gb258, 3, none⟩ = some (.int .i64 0) := (blk_cell BK258.out 3).trans rfl; have hcz8_4 : w7.cell? ⟨gb258, 4, none⟩ = some (.int .i64 0) := (blk_cell BK258.out 4).trans rfl; have hfz8_0 := blk_frozen BK258.out 0; have hfz8_1 := blk_frozen BK258.out 1; have hfz8_2 := blk_frozen BK258.out 2; have hfz8_3 := blk_frozen BK258.out 3; have hfz8_4 := blk_frozen BK258.out 4) | ((with_reducible refine gate_callee (f := 25) rfl ?_); refine goesL_ (some 20) rfl rfl Tryd.func25 (by kernel_rfl) rfl #[.int .i64 ((rd_T36 l0 x14_1).f0)] rfl (by (try simp only [List.map_toArray, List.map_cons, List.map_nil]); first | done | rfl | (simp only [List.length_drop, List.length_take]; rfl)) ?_; (with_reducible refine (fletchref21_name.calls ((rd_T36 l0 x14_1).f0) t259 _ A5.out).mono ?_); rintro e w' ⟨rfl, ⟨nd, rfl⟩⟩; refine ⟨_, rfl, ?_⟩))
              go_ret2
              exact ⟨by first | rfl | (simp [errW_none, errW_some] <;> rfl) | (simp [*, errW_none, errW_some] <;> rfl), by repeat (first | (with_reducible first | exact HB.out | apply below_alloc | apply pw_below_drewN | apply below_drew1 | refine below_set ?_ GE258.out) | exact HB.out)⟩
            · rw [if_neg c6] at H
              have c6b0 : (t259.toList == ([] : List UInt8)) = false := beq_eq_false_iff_ne.mpr c6
              have c6b1 : (t259.toList != ([] : List UInt8)) = true := bne_iff_ne.mpr c6
              replace H := Option.bind_eq_some_iff.mp H
              obtain ⟨t260, A90, H⟩ := H
              replace H : ((fletchref21_told.f k1 ((rd_T36 l0 x14_1).f0) ((rd_T36 l0 x14_1).f1) ((rd_T36 l0 x14_1).f2) ((rd_T36 l0 x14_1).f3) ((rd_T36 l0 x14_1).f4)).bind fun t261 => (fletchref21_Text.l1 k1 x4_1 t260 l0 (l0.length : Int) x14_1 t261 (t261.length : Int) 0 ((rd_T36 l0 x14_1).f0) ((rd_T36 l0 x14_1).f1) ((rd_T36 l0 x14_1).f2) ((rd_T36 l0 x14_1).f3) ((rd_T36 l0 x14_1).f4))) = some (r1, r2) := H
              have A9 := Aside0.mk A90
              clear A90
              replace H := Option.bind_eq_some_iff.mp H
              obtain ⟨t261, A100, H⟩ := H
              replace H : (fletchref21_Text.l1 k1 x4_1 t260 l0 (l0.length : Int) x14_1 t261 (t261.length : Int) 0 ((rd_T36 l0 x14_1).f0) ((rd_T36 l0 x14_1).f1) ((rd_T36 l0 x14_1).f2) ((rd_T36 l0 x14_1).f3) ((rd_T36 l0 x14_1).f4)) = some (r1, r2) := H
              have A10 := Aside0.mk A100
              clear A100
              have H' := Aside0.mk H
              clear H
              have p257 : 0 ≤ (x14_1 : Int) := of_decide_eq_true (by first | (with_reducible assumption) | assumption)
              have q257 : x14_1 < (l0.length : Int) := of_decide_eq_true (by first | (with_reducible assumption) | assumption)
              obtain ⟨ad257, e257, hx257_0, hx257_1, hx257_2, hx257_3, hx257_4⟩ := at_T36 HR0.out x14_1 p257 q257
              cases e257
              replace hx257_0 := (HB.out.cell (World.block_lt_of_cell? w _ hx257_0)).trans hx257_0
              replace hx257_1 := (HB.out.cell (World.block_lt_of_cell? w _ hx257_1)).trans hx257_1
              replace hx257_2 := (HB.out.cell (World.block_lt_of_cell? w _ hx257_2)).trans hx257_2
              replace hx257_3 := (HB.out.cell (World.block_lt_of_cell? w _ hx257_3)).trans hx257_3
              replace hx257_4 := (HB.out.cell (World.block_lt_of_cell? w _ hx257_4)).trans hx257_4
              replace p257 := eq_true p257
              replace q257 := eq_true q257
              go_wp2_with (first | ((with_reducible refine gate_dst (N := 6) rfl ?_); refine box_event ?hg (N := 6) ?hd (cs := #[.int .i64 0, .int .i64 0, .int .i64 0, .int .i64 0, .int .i64 0]) (t := 36) ?hr ?_; (case hd => rfl); (case hg => rfl); (case hr => first | (go_simp; done) | (go_simp; rfl)); intro gb258 hg w11 hbox hb; have n0_ := Aside0.mk (below_step (by repeat (first | (with_reducible first | exact HB.out | apply below_alloc | apply pw_below_drewN | apply below_drew1) | exact HB.out)) hb); have n1_ := Aside0.mk (hbox); have n2_ := Aside0.mk ((by rw [hg]; exact (below_size (by repeat (first | (with_reducible first | exact HB.out | apply below_alloc | apply pw_below_drewN | apply below_drew1) | exact HB.out))) : w.heap.size ≤ gb258)); have n3_ := Aside0.mk ((by rw [hg]; exact (below_size (by repeat (first | (with_reducible first | exact HB.out | apply below_alloc | apply pw_below_drewN | apply below_drew1) | exact HB.out))) : w.heap.size ≤ gb258)); clear HB; have HB := n0_; have BK258 := n1_; have GW258 := n2_; have GE258 := n3_; clear n0_ n1_ n2_ n3_; clear hb hbox hg; have hcz12_0 : w11.cell? ⟨gb258, 0, none⟩ = some (.int .i64 0) := (blk_cell BK258.out 0).trans rfl; have hcz12_1 : w11.cell? ⟨gb258, 1, none⟩ = some (.int .i64 0) := (blk_cell BK258.out 1).trans rfl; have hcz12_2 : w11.cell? ⟨gb258, 2, none⟩ = some (.int .i64 0) := (blk_cell BK258.out 2).trans rfl; have hcz12_3 : w11.cell? ⟨gb258, 3, none⟩ = some (.int .i64 0) := (blk_cell BK258.out 3).trans rfl; have hcz12_4 : w11.cell? ⟨gb258, 4, none⟩ = some (.int .i64 0) := (blk_cell BK258.out 4).trans rfl; have hfz12_0 := blk_frozen BK258.out 0; have hfz12_1 := blk_frozen BK258.out 1; have hfz12_2 := blk_frozen BK258.out 2; have hfz12_3 := blk_frozen BK258.out 3; have hfz12_4 := blk_frozen BK258.out 4) | ((with_reducible refine gate_callee (f := 25) rfl ?_); refine goesL_ (some 20) rfl rfl Tryd.func25 (by kernel_rfl) rfl #[.int .i64 ((rd_T36 l0 x14_1).f0)] rfl (by (try simp only [List.map_toArray, List.map_cons, List.map_nil]); first | done | rfl | (simp only [List.length_drop, List.length_take]; rfl)) ?_; (with_reducible refine (fletchref21_name.calls ((rd_T36 l0 x14_1).f0) t259 _ A5.out).mono ?_); rintro e w' ⟨rfl, ⟨nd, rfl⟩⟩; refine ⟨_, rfl, ?_⟩) | ((with_reducible refine gate_callee (f := 25) rfl ?_); refine goesL_ (some 24) rfl rfl Tryd.func25 (by kernel_rfl) rfl #[.int .i64 ((rd_T36 l0 x14_1).f0)] rfl (by (try simp only [List.map_toArray, List.map_cons, List.map_nil]); first | done | rfl | (simp only [List.length_drop, List.length_take]; rfl)) ?_; (with_reducible refine (fletchref21_name.calls ((rd_T36 l0 x14_1).f0) t260 _ A9.out).mono ?_); rintro e w' ⟨rfl, ⟨nd, rfl⟩⟩; refine ⟨_, rfl, ?_⟩) | ((with_reducible refine gate_callee (f := 26) rfl ?_); refine goesL_ (some 26) rfl rfl Tryd.func26 (by kernel_rfl) rfl #[.agg #[.int .i64 ((rd_T36 l0 x14_1).f0), .int .i64 ((rd_T36 l0 x14_1).f1), .int .i64 ((rd_T36 l0 x14_1).f2), .int .i64 ((rd_T36 l0 x14_1).f3), .int .i64 ((rd_T36 l0 x14_1).f4)]] rfl (by (try simp only [List.map_toArray, List.map_cons, List.map_nil]); first | done | rfl | (simp only [List.length_drop, List.length_take]; rfl)) ?_; (with_reducible refine (fletchref21_told.calls k1 ((rd_T36 l0 x14_1).f0) ((rd_T36 l0 x14_1).f1) ((rd_T36 l0 x14_1).f2) ((rd_T36 l0 x14_1).f3) ((rd_T36 l0 x14_1).f4) t261 _ A10.out).mono ?_); rintro e w13 ⟨v262, rfl, ho0, hb⟩; refine ⟨_, rfl, ?_⟩; have n0_ := Aside0.mk (Kd.R_lower ho0 (below_size (by repeat (first | (with_reducible first | exact HB.out | apply below_alloc | apply pw_below_drewN | apply below_drew1 | refine below_set ?_ GE258.out) | exact HB.out)))); have n1_ := Aside0.mk (blk_below (g := gb258) (o := .cells #[.int .i64 ((rd_T36 l0 x14_1).f0), .int .i64 ((rd_T36 l0 x14_1).f1), .int .i64 ((rd_T36 l0 x14_1).f2), .int .i64 ((rd_T36 l0 x14_1).f3), .int .i64 ((rd_T36 l0 x14_1).f4)] 36 (0, 0)) (by (with_reducible repeat (first | refine blk_drewN ?_ _ | refine blk_drew ?_ | refine blk_alloc ?_ _)); refine blk_put (cs := #[.int .i64 ((rd_T36 l0 x14_1).f0), .int .i64 ((rd_T36 l0 x14_1).f1), .int .i64 ((rd_T36 l0 x14_1).f2), .int .i64 ((rd_T36 l0 x14_1).f3), .int .i64 0]) ?_ 4 _ rfl; (with_reducible repeat (first | refine blk_drewN ?_ _ | refine blk_drew ?_ | refine blk_alloc ?_ _)); refine blk_put (cs := #[.int .i64 ((rd_T36 l0 x14_1).f0), .int .i64 ((rd_T36 l0 x14_1).f1), .int .i64 ((rd_T36 l0 x14_1).f2), .int .i64 0, .int .i64 0]) ?_ 3 _ rfl; (with_reducible repeat (first | refine blk_drewN ?_ _ | refine blk_drew ?_ | refine blk_alloc ?_ _)); refine blk_put (cs := #[.int .i64 ((rd_T36 l0 x14_1).f0), .int .i64 ((rd_T36 l0 x14_1).f1), .int .i64 0, .int .i64 0, .int .i64 0]) ?_ 2 _ rfl; (with_reducible repeat (first | refine blk_drewN ?_ _ | refine blk_drew ?_ | refine blk_alloc ?_ _)); refine blk_put (cs := #[.int .i64 ((rd_T36 l0 x14_1).f0), .int .i64 0, .int .i64 0, .int .i64 0, .int .i64 0]) ?_ 1 _ rfl; (with_reducible repeat (first | refine blk_drewN ?_ _ | refine blk_drew ?_ | refine blk_alloc ?_ _)); refine blk_put (cs := #[.int .i64 0, .int .i64 0, .int .i64 0, .int .i64 0, .int .i64 0]) ?_ 0 _ rfl; (with_reducible repeat (first | refine blk_drewN ?_ _ | refine blk_drew ?_ | refine blk_alloc ?_ _)); exact BK258.out) hb); have n2_ := Aside0.mk (below_step (by repeat (first | (with_reducible first | exact HB.out | apply below_alloc | apply pw_below_drewN | apply below_drew1 | refine below_set ?_ GE258.out) | exact HB.out)) hb); clear BK258; clear HB; have HO263 := n0_; have BK258 := n1_; have HB := n2_; clear n0_ n1_ n2_; (try clear hb); (try clear hb2); (try clear hk); (try clear hi); (try clear ho0); obtain ⟨Ao14, co14, eo14⟩ := Kd.R_slice HO263.out; subst eo14))
              go_loopg [7, 28] k1 (fun kq v7 v28 w' => ∃ (x7_2 : ByteArray) (x28_2 : Int), v7 = .string x7_2 ∧ v28 = .int .i64 x28_2 ∧ Aside0 (fletchref21_Text.l1 kq x4_1 x7_2 l0 (l0.length : Int) x14_1 t261 (t261.length : Int) x28_2 ((rd_T36 l0 x14_1).f0) ((rd_T36 l0 x14_1).f1) ((rd_T36 l0 x14_1).f2) ((rd_T36 l0 x14_1).f3) ((rd_T36 l0 x14_1).f4) = some (r1, r2)) ∧ Aside0 (kq ≤ k1) ∧ Aside0 (Kd.R (Kd.int .i64) 3 w' w.heap.size (fun _ => True) (.slice Ao14 t261.length co14) t261) ∧ Aside0 (w'.heap[gb258]? = some (.cells #[.int .i64 ((rd_T36 l0 x14_1).f0), .int .i64 ((rd_T36 l0 x14_1).f1), .int .i64 ((rd_T36 l0 x14_1).f2), .int .i64 ((rd_T36 l0 x14_1).f3), .int .i64 ((rd_T36 l0 x14_1).f4)] 36 (0, 0))) ∧ Aside0 (Below w.heap.size w w'))
              case atStart => exact ⟨(t260), (0), (by first | rfl | (simp; done) | (simp [*]; done)), (by first | rfl | (simp; done) | (simp [*]; done)), H', ⟨Nat.le_refl _⟩, ⟨by (with_reducible repeat (first | apply Kd.R_alloc | apply Kd.R_drewN | apply Kd.R_drew)); exact HO263.out⟩, ⟨by (with_reducible repeat (first | refine blk_drewN ?_ _ | refine blk_drew ?_ | refine blk_alloc ?_ _)); exact BK258.out⟩, ⟨by repeat (first | (with_reducible first | exact HB.out | apply below_alloc | apply pw_below_drewN | apply below_drew1 | refine below_set ?_ GE258.out) | exact HB.out)⟩⟩
              case round =>
                clear H'
                try clear c1
                try clear c2
                try clear c2b0
                try clear p2
                try clear q2
                try clear hx2
                try clear c3
                try clear c3b0
                try clear c4
                try clear c4b0
                try clear c6
                try clear c6b0
                try clear c6b1
                try clear c14
                try clear hcz12_0
                try clear hcz12_1
                try clear hcz12_2
                try clear hcz12_3
                try clear hcz12_4
                try clear hcz8_0
                try clear hcz8_1
                try clear hcz8_2
                try clear hcz8_3
                try clear hcz8_4
                try clear hfz12_0
                try clear hfz12_1
                try clear hfz12_2
                try clear hfz12_3
                try clear hfz12_4
                try clear hfz8_0
                try clear hfz8_1
                try clear hfz8_2
                try clear hfz8_3
                try clear hfz8_4
                try clear hx257_0
                try clear hx257_1
                try clear hx257_2
                try clear hx257_3
                try clear hx257_4
                try clear p257
                try clear q257
                obtain ⟨x7_2, x28_2, rfl, rfl, HA, HK2, HO_26, BK258, HB⟩ := hrel
                cases gk with
                | zero => exact absurd HA.out (by simp [fletchref21_Text.l1])
                | succ k2 =>
                  have H := HA.out
                  clear HA
                  simp only [fletchref21_Text.l1] at H
                  by_cases c15 : x28_2 < (t261.length : Int)
                  · rw [if_pos c15] at H
                    have c15b0 : decide (x28_2 < (t261.length : Int)) = true := decide_eq_true c15
                    clear c15
                    by_cases c16 : 0 ≤ x28_2
                    · rw [if_pos c16] at H
                      have c16b0 : decide (0 ≤ x28_2) = true := decide_eq_true c16
                      clear c16
                      by_cases c17 : x28_2 < (t261.length : Int)
                      · rw [if_pos c17] at H
                        have c17b0 : decide (x28_2 < (t261.length : Int)) = true := decide_eq_true c17
                        clear c17
                        by_cases c18 : (rd t261 x28_2) > 999999999999999999
                        · rw [if_pos c18] at H
                          have c18b0 : decide (999999999999999999 < (rd t261 x28_2)) = true := decide_eq_true c18
                          clear c18
                          simp only [Option.some.injEq, Prod.mk.injEq] at H
                          obtain ⟨rfl, rfl⟩ := H
                          have p264 : 0 ≤ (x28_2 : Int) := of_decide_eq_true (by first | (with_reducible assumption) | assumption)
                          have q264 : x28_2 < (t261.length : Int) := of_decide_eq_true (by first | (with_reducible assumption) | assumption)
                          obtain ⟨ad264, e264, hx264_0⟩ := Kd.at_int (Kd.R_reads' HO_26.out).2.2 x28_2 p264 q264
                          cases e264
                          replace p264 := eq_true p264
                          replace q264 := eq_true q264
                          go_wp2
                          go_ret2
                          exact ⟨by first | rfl | (simp [errW_none, errW_some] <;> rfl) | (simp [*, errW_none, errW_some] <;> rfl), by repeat (first | (with_reducible first | exact HB.out | apply below_alloc | apply pw_below_drewN | apply below_drew1 | refine below_set ?_ GE258.out) | exact HB.out)⟩
                        · rw [if_neg c18] at H
                          have c18b0 : decide (999999999999999999 < (rd t261 x28_2)) = false := decide_eq_false c18
                          clear c18
                          by_cases c19 : (rd t261 x28_2) < (-999999999999999999)
                          · rw [if_pos c19] at H
                            have c19b0 : decide ((rd t261 x28_2) < (-999999999999999999)) = true := decide_eq_true c19
                            clear c19
                            simp only [Option.some.injEq, Prod.mk.injEq] at H
                            obtain ⟨rfl, rfl⟩ := H
                            have p264 : 0 ≤ (x28_2 : Int) := of_decide_eq_true (by first | (with_reducible assumption) | assumption)
                            have q264 : x28_2 < (t261.length : Int) := of_decide_eq_true (by first | (with_reducible assumption) | assumption)
                            obtain ⟨ad264, e264, hx264_0⟩ := Kd.at_int (Kd.R_reads' HO_26.out).2.2 x28_2 p264 q264
                            cases e264
                            replace p264 := eq_true p264
                            replace q264 := eq_true q264
                            go_wp2
                            go_ret2
                            exact ⟨by first | rfl | (simp [errW_none, errW_some] <;> rfl) | (simp [*, errW_none, errW_some] <;> rfl), by repeat (first | (with_reducible first | exact HB.out | apply below_alloc | apply pw_below_drewN | apply below_drew1 | refine below_set ?_ GE258.out) | exact HB.out)⟩
                          · rw [if_neg c19] at H
                            have c19b0 : decide ((rd t261 x28_2) < (-999999999999999999)) = false := decide_eq_false c19
                            clear c19
                            by_cases c20 : x7_2.size + 1 ≤ 9223372036854775807
                            · rw [if_pos c20] at H
                              have c20b0 := eq_true c20
                              have c20b1 : decide (x7_2.size + 1 ≤ 9223372036854775807) = true := decide_eq_true c20
                              try have c20b2 : (9223372036854775807 < x7_2.size + 1) = False := eq_false (Nat.not_lt.2 c20)
                              replace H := Option.bind_eq_some_iff.mp H
                              obtain ⟨t265, A210, H⟩ := H
                              replace H : (if (x7_2 ++ (⟨#[32]⟩ : ByteArray)).size + t265.size ≤ 9223372036854775807 then (fletchref21_Text.l1 k2 x4_1 ((x7_2 ++ (⟨#[32]⟩ : ByteArray)) ++ t265) l0 (l0.length : Int) x14_1 t261 (t261.length : Int) (wrap64 (x28_2 + 1)) ((rd_T36 l0 x14_1).f0) ((rd_T36 l0 x14_1).f1) ((rd_T36 l0 x14_1).f2) ((rd_T36 l0 x14_1).f3) ((rd_T36 l0 x14_1).f4)) else (none)) = some (r1, r2) := H
                              have A21 := Aside0.mk A210
                              clear A210
                              by_cases c22 : (x7_2 ++ (⟨#[32]⟩ : ByteArray)).size + t265.size ≤ 9223372036854775807
                              · rw [if_pos c22] at H
                                have c22b0 := eq_true c22
                                have c22b1 : decide ((x7_2 ++ (⟨#[32]⟩ : ByteArray)).size + t265.size ≤ 9223372036854775807) = true := decide_eq_true c22
                                have c22n := c22
                                simp only [ByteArray.size_append, show ((⟨#[32]⟩ : ByteArray).size) = 1 from rfl] at c22n
                                have c22n0 := eq_true c22n
                                have c22n1 := decide_eq_true c22n
                                have c22n2 := eq_false (Nat.not_lt.2 c22n)
                                try have c22b2 : (9223372036854775807 < (x7_2 ++ (⟨#[32]⟩ : ByteArray)).size + t265.size) = False := eq_false (Nat.not_lt.2 c22)
                                have H' := Aside0.mk H
                                clear H
                                have p264 : 0 ≤ (x28_2 : Int) := of_decide_eq_true (by first | (with_reducible assumption) | assumption)
                                have q264 : x28_2 < (t261.length : Int) := of_decide_eq_true (by first | (with_reducible assumption) | assumption)
                                obtain ⟨ad264, e264, hx264_0⟩ := Kd.at_int (Kd.R_reads' HO_26.out).2.2 x28_2 p264 q264
                                cases e264
                                replace p264 := eq_true p264
                                replace q264 := eq_true q264
                                go_wp2_with (first | ((with_reducible refine gate_callee (f := 22) rfl ?_); refine goesL_ (some 41) rfl rfl Tryd.func22 (by kernel_rfl) rfl #[.int .i64 (rd t261 x28_2)] rfl (by (try simp only [List.map_toArray, List.map_cons, List.map_nil]); first | done | rfl | (simp only [List.length_drop, List.length_take]; rfl)) ?_; (with_reducible refine (strconv_Itoa_22.calls (rd t261 x28_2) t265 _ ?side1 A21.out).mono ?_); (case side1 => repeat (first | (with_reducible exact HG_.out) | (with_reducible apply Glob.drewN) | (with_reducible apply Glob.drew) | (with_reducible apply Glob.alloc) | exact Glob.below HG_.out (by repeat (first | (with_reducible first | exact HB.out | apply below_alloc | apply pw_below_drewN | apply below_drew1 | refine below_set ?_ GE258.out) | exact HB.out)) | exact HG_.out)); rintro e w23 ⟨rfl, hb⟩; refine ⟨_, rfl, ?_⟩; have n0_ := Aside0.mk (Kd.R_below (by (with_reducible repeat (first | apply Kd.R_alloc | apply Kd.R_drewN | apply Kd.R_drew)); exact HO_26.out) hb); have n1_ := Aside0.mk (blk_below (g := gb258) (o := .cells #[.int .i64 ((rd_T36 l0 x14_1).f0), .int .i64 ((rd_T36 l0 x14_1).f1), .int .i64 ((rd_T36 l0 x14_1).f2), .int .i64 ((rd_T36 l0 x14_1).f3), .int .i64 ((rd_T36 l0 x14_1).f4)] 36 (0, 0)) (by (with_reducible repeat (first | refine blk_drewN ?_ _ | refine blk_drew ?_ | refine blk_alloc ?_ _)); exact BK258.out) hb); have n2_ := Aside0.mk (below_step (by repeat (first | (with_reducible first | exact HB.out | apply below_alloc | apply pw_below_drewN | apply below_drew1 | refine below_set ?_ GE258.out) | exact HB.out)) hb); clear HO_26; clear BK258; clear HB; have HO_26 := n0_; have BK258 := n1_; have HB := n2_; clear n0_ n1_ n2_; (try clear hb); (try clear hb2); (try clear hk); (try clear hi)))
                                go_roundg k2
                                case measure => have := HK1.out; have := HK2.out; omega
                                case rel => exact ⟨((x7_2 ++ (⟨#[32]⟩ : ByteArray)) ++ t265), (wrap64 (x28_2 + 1)), (by first | rfl | (simp; done) | (simp [*]; done)), (by first | rfl | (simp; done) | (simp [*]; done)), H', ⟨by have := HK1.out; have := HK2.out; omega⟩, ⟨by (with_reducible repeat (first | apply Kd.R_alloc | apply Kd.R_drewN | apply Kd.R_drew)); exact HO_26.out⟩, ⟨by (with_reducible repeat (first | refine blk_drewN ?_ _ | refine blk_drew ?_ | refine blk_alloc ?_ _)); exact BK258.out⟩, ⟨by repeat (first | (with_reducible first | exact HB.out | apply below_alloc | apply pw_below_drewN | apply below_drew1 | refine below_set ?_ GE258.out) | exact HB.out)⟩⟩
                              · rw [if_neg c22] at H
                                exact absurd H (by simp)
                            · rw [if_neg c20] at H
                              exact absurd H (by simp)
                      · rw [if_neg c17] at H
                        exact absurd H (by simp)
                    · rw [if_neg c16] at H
                      exact absurd H (by simp)
                  · rw [if_neg c15] at H
                    have c15b0 : decide (x28_2 < (t261.length : Int)) = false := decide_eq_false c15
                    clear c15
                    replace H := Option.bind_eq_some_iff.mp H
                    obtain ⟨t266, A240, H⟩ := H
                    replace H : ((fletchref21_made.f k2 ((rd_T36 l0 x14_1).f0) t266).bind fun bt269 => (if bt269.2.2.2.2.2 = true then (if (!(bt269.1 == ((rd_T36 l0 x14_1).f0)) || (!(bt269.2.1 == ((rd_T36 l0 x14_1).f1)) || (!(bt269.2.2.1 == ((rd_T36 l0 x14_1).f2)) || (!(bt269.2.2.2.1 == ((rd_T36 l0 x14_1).f3)) || (!(bt269.2.2.2.2.1 == ((rd_T36 l0 x14_1).f4))))))) = true then (some ((⟨#[]⟩ : ByteArray), 1)) else (if x4_1.size + x7_2.size ≤ 9223372036854775807 then (if (x4_1 ++ x7_2).size + 1 ≤ 9223372036854775807 then (fletchref21_Text.l0 k2 ((x4_1 ++ x7_2) ++ (⟨#[10]⟩ : ByteArray)) l0 (l0.length : Int) (wrap64 (x14_1 + 1))) else (none)) else (none))) else (some ((⟨#[]⟩ : ByteArray), 1)))) = some (r1, r2) := H
                    have A24 := Aside0.mk A240
                    clear A240
                    replace H := Option.bind_eq_some_iff.mp H
                    obtain ⟨⟨t269, t270, t271, t272, t273, t274⟩, A250, H⟩ := H
                    replace H : (if t274 = true then (if (!(t269 == ((rd_T36 l0 x14_1).f0)) || (!(t270 == ((rd_T36 l0 x14_1).f1)) || (!(t271 == ((rd_T36 l0 x14_1).f2)) || (!(t272 == ((rd_T36 l0 x14_1).f3)) || (!(t273 == ((rd_T36 l0 x14_1).f4))))))) = true then (some ((⟨#[]⟩ : ByteArray), 1)) else (if x4_1.size + x7_2.size ≤ 9223372036854775807 then (if (x4_1 ++ x7_2).size + 1 ≤ 9223372036854775807 then (fletchref21_Text.l0 k2 ((x4_1 ++ x7_2) ++ (⟨#[10]⟩ : ByteArray)) l0 (l0.length : Int) (wrap64 (x14_1 + 1))) else (none)) else (none))) else (some ((⟨#[]⟩ : ByteArray), 1))) = some (r1, r2) := H
                    have A25 := Aside0.mk A250
                    clear A250
                    by_cases c26 : t274 = true
                    · subst c26
                      have H1 : (if (!(t269 == ((rd_T36 l0 x14_1).f0)) || (!(t270 == ((rd_T36 l0 x14_1).f1)) || (!(t271 == ((rd_T36 l0 x14_1).f2)) || (!(t272 == ((rd_T36 l0 x14_1).f3)) || (!(t273 == ((rd_T36 l0 x14_1).f4))))))) = true then (some ((⟨#[]⟩ : ByteArray), 1)) else (if x4_1.size + x7_2.size ≤ 9223372036854775807 then (if (x4_1 ++ x7_2).size + 1 ≤ 9223372036854775807 then (fletchref21_Text.l0 k2 ((x4_1 ++ x7_2) ++ (⟨#[10]⟩ : ByteArray)) l0 (l0.length : Int) (wrap64 (x14_1 + 1))) else (none)) else (none))) = some (r1, r2) := by rw [if_pos rfl] at H; exact H
                      clear H
                      have H := H1
                      clear H1
                      by_cases c27 : (!(t269 == ((rd_T36 l0 x14_1).f0)) || (!(t270 == ((rd_T36 l0 x14_1).f1)) || (!(t271 == ((rd_T36 l0 x14_1).f2)) || (!(t272 == ((rd_T36 l0 x14_1).f3)) || (!(t273 == ((rd_T36 l0 x14_1).f4))))))) = true
                      · rw [if_pos c27] at H
                        have c27b0 : (!(t269 == ((rd_T36 l0 x14_1).f0)) || (!(t270 == ((rd_T36 l0 x14_1).f1)) || (!(t271 == ((rd_T36 l0 x14_1).f2)) || (!(t272 == ((rd_T36 l0 x14_1).f3)) || (!(t273 == ((rd_T36 l0 x14_1).f4))))))) = true := c27
                        clear c27
                        simp only [Option.some.injEq, Prod.mk.injEq] at H
                        obtain ⟨rfl, rfl⟩ := H
                        try go_wp2
                        have n0_ := Aside0.mk (Kd.R_drew HO_26.out)
                        have n1_ := Aside0.mk (blk_drew BK258.out)
                        have n2_ := Aside0.mk (below_drew1 HB.out)
                        clear HO_26
                        clear BK258
                        clear HB
                        have HO_26 := n0_
                        have BK258 := n1_
                        have HB := n2_
                        clear n0_ n1_ n2_
                        refine start_ (n := 11) (S := fun w' => w'.cell? ⟨gb258, 0, none⟩ = some (.int .i64 ((rd_T36 l0 x14_1).f0)) ∧ w'.cell? ⟨gb258, 1, none⟩ = some (.int .i64 ((rd_T36 l0 x14_1).f1)) ∧ w'.cell? ⟨gb258, 2, none⟩ = some (.int .i64 ((rd_T36 l0 x14_1).f2)) ∧ w'.cell? ⟨gb258, 3, none⟩ = some (.int .i64 ((rd_T36 l0 x14_1).f3)) ∧ w'.cell? ⟨gb258, 4, none⟩ = some (.int .i64 ((rd_T36 l0 x14_1).f4))) (ds := []) #[false, false, false, false, false, false, false, false, false, false, false] (by kernel_rfl) rfl rfl ⟨(blk_cell BK258.out 0).trans rfl, (blk_cell BK258.out 1).trans rfl, (blk_cell BK258.out 2).trans rfl, (blk_cell BK258.out 3).trans rfl, (blk_cell BK258.out 4).trans rfl⟩ (fun hHeld => ?_); refine with_tabW fletchref21_Text.tab15 fletchref21_Text.bits15 (fun HT_ HW_ => ?_)
                        generalize wr.drew = w28 at HO_26 BK258 HB hHeld ⊢
                        refine pure_ (i := 0) (N := some 45) (v := ?_) (a' := ?_) #[true, false, false, false, false, false, false, false, false, false, false] rfl rfl (any_of HT_.out (by kernel_rfl)) (fun _ _ _ h => h) (Or.inl ⟨by rfl, ?_⟩) ?_ ?_
                        rotate_left
                        · intro w'
                          go_simp
                          with_reducible rfl
                        rotate_left
                        · simp only [Act.put, List.setIfInBounds_toArray, List.set_cons_zero, List.set_cons_succ, i64_w, i32_w]
                          rfl
                        refine take_ (i := 1) (N := some 46) (v := ?_) (a' := ?_) #[true, true, false, false, false, false, false, false, false, false, false] rfl rfl (take_ofW HT_.out HW_.out (by kernel_rfl)) (fun _ _ _ h => h) (Or.inl ⟨by rfl, ?_⟩) hHeld ?_ ?_
                        rotate_left
                        · rintro w' ⟨s0, s1, s2, s3, s4⟩
                          go_simp
                          with_reducible rfl
                        rotate_left
                        · simp only [Act.put, List.setIfInBounds_toArray, List.set_cons_zero, List.set_cons_succ, i64_w, i32_w]
                          rfl
                        refine take_ (i := 2) (N := some 47) (v := ?_) (a' := ?_) #[true, true, true, false, false, false, false, false, false, false, false] rfl rfl (take_ofW HT_.out HW_.out (by kernel_rfl)) (fun _ _ _ h => h) (Or.inl ⟨by rfl, ?_⟩) hHeld ?_ ?_
                        rotate_left
                        · rintro w' ⟨s0, s1, s2, s3, s4⟩
                          go_simp
                          with_reducible rfl
                        rotate_left
                        · simp only [Act.put, List.setIfInBounds_toArray, List.set_cons_zero, List.set_cons_succ, i64_w, i32_w]
                          rfl
                        refine join_ (σ := Value × Nat) 2 #[true, true, true, true, true, true, true, true, true, false, false] (fun s_ => [(48, s_.1), (49, .tuple #[.agg #[.int .i64 t269, .int .i64 t270, .int .i64 t271, .int .i64 t272, .int .i64 t273], .bool true]), (10, .pointer (some ⟨s_.2, 0, none⟩)), (44, .tuple #[.agg #[.int .i64 t269, .int .i64 t270, .int .i64 t271, .int .i64 t272, .int .i64 t273], .bool true]), (50, .agg #[.int .i64 t269, .int .i64 t270, .int .i64 t271, .int .i64 t272, .int .i64 t273]), (51, .bool true)]) (fun s_ w' => (w'.cell? ⟨gb258, 0, none⟩ = some (.int .i64 ((rd_T36 l0 x14_1).f0)) ∧ w'.cell? ⟨gb258, 1, none⟩ = some (.int .i64 ((rd_T36 l0 x14_1).f1)) ∧ w'.cell? ⟨gb258, 2, none⟩ = some (.int .i64 ((rd_T36 l0 x14_1).f2)) ∧ w'.cell? ⟨gb258, 3, none⟩ = some (.int .i64 ((rd_T36 l0 x14_1).f3)) ∧ w'.cell? ⟨gb258, 4, none⟩ = some (.int .i64 ((rd_T36 l0 x14_1).f4))) ∧ (Kd.R (Kd.int .i64) 3 w' w.heap.size (fun k_ => some k_ ≠ (.slice Ao14 t261.length co14 : Value).ownBlock) s_.1 t266) ∧ (Kd.R (Kd.int .i64) 3 w' w.heap.size (fun k_ => some k_ ≠ (s_.1 : Value).ownBlock) (.slice Ao14 t261.length co14) t261) ∧ (w'.heap[gb258]? = some (.cells #[.int .i64 ((rd_T36 l0 x14_1).f0), .int .i64 ((rd_T36 l0 x14_1).f1), .int .i64 ((rd_T36 l0 x14_1).f2), .int .i64 ((rd_T36 l0 x14_1).f3), .int .i64 ((rd_T36 l0 x14_1).f4)] 36 (0, 0))) ∧ (w'.heap[s_.2]? = some (.cells #[.int .i64 0, .int .i64 0, .int .i64 0, .int .i64 0, .int .i64 0] 36 (0, 0))) ∧ (w.heap.size ≤ s_.2) ∧ (w.heap.size ≤ s_.2) ∧ (gb258 ≠ s_.2) ∧ (s_.2 ≠ gb258) ∧ (Below w.heap.size w w')) ?_ ?_
                        rotate_left
                        · intro hCont
                          refine two_ (i := 3) (j := 8) (Ni := some 48) (Nj := some 10) #[true, true, true, true, false, false, false, false, false, false, false] #[true, true, true, false, false, false, false, false, true, false, false] rfl rfl rfl rfl (two_of HT_.out (by kernel_rfl)) (by decide) (by decide) (fun K hK => ?_) (fun K hK => ?_)
                          · skip
                            refine goes_ Tryd.func26 (by kernel_rfl) rfl #[.agg #[.int .i64 ((rd_T36 l0 x14_1).f0), .int .i64 ((rd_T36 l0 x14_1).f1), .int .i64 ((rd_T36 l0 x14_1).f2), .int .i64 ((rd_T36 l0 x14_1).f3), .int .i64 ((rd_T36 l0 x14_1).f4)]] (by rfl) rfl rfl (by (try simp only [List.map_toArray, List.map_cons, List.map_nil]); first | done | rfl | (simp only [List.length_drop, List.length_take]; rfl)) ?_
                            with_reducible refine (fletchref21_told.calls k2 ((rd_T36 l0 x14_1).f0) ((rd_T36 l0 x14_1).f1) ((rd_T36 l0 x14_1).f2) ((rd_T36 l0 x14_1).f3) ((rd_T36 l0 x14_1).f4) t266 _ A24.out).mono ?_
                            rintro e w29 ⟨v267, rfl, ho0, hb⟩
                            refine ⟨_, rfl, ?_⟩
                            have n0_ := Aside0.mk (Kd.R_elder' (by (with_reducible repeat (first | apply Kd.R_alloc | apply Kd.R_drewN | apply Kd.R_drew)); exact HO_26.out) (Kd.R_base ho0) hb)
                            have n1_ := Aside0.mk (Kd.R_lower (Kd.R_new' ho0 (Kd.R_lt (by (with_reducible repeat (first | apply Kd.R_alloc | apply Kd.R_drewN | apply Kd.R_drew)); exact HO_26.out))) (below_size (by repeat (first | (with_reducible first | exact HB.out | apply below_alloc | apply pw_below_drewN | apply below_drew1 | refine below_set ?_ GE258.out) | exact HB.out))))
                            have n2_ := Aside0.mk (blk_below (g := gb258) (o := .cells #[.int .i64 ((rd_T36 l0 x14_1).f0), .int .i64 ((rd_T36 l0 x14_1).f1), .int .i64 ((rd_T36 l0 x14_1).f2), .int .i64 ((rd_T36 l0 x14_1).f3), .int .i64 ((rd_T36 l0 x14_1).f4)] 36 (0, 0)) (by (with_reducible repeat (first | refine blk_drewN ?_ _ | refine blk_drew ?_ | refine blk_alloc ?_ _)); exact BK258.out) hb)
                            have n3_ := Aside0.mk (below_step (by repeat (first | (with_reducible first | exact HB.out | apply below_alloc | apply pw_below_drewN | apply below_drew1 | refine below_set ?_ GE258.out) | exact HB.out)) hb)
                            clear HO_26
                            clear BK258
                            clear HB
                            have HO_26 := n0_
                            have HO268 := n1_
                            have BK258 := n2_
                            have HB := n3_
                            clear n0_ n1_ n2_ n3_
                            (try clear hb)
                            (try clear hb2)
                            (try clear hk)
                            (try clear hi)
                            (try clear ho0)
                            obtain ⟨Ao30, co30, eo30⟩ := Kd.R_slice HO268.out
                            (first | subst eo30 | (injection eo30 with f1_ f2_ f3_; have f4_ := f1_.symm; have f5_ := f3_.symm; clear f1_ f2_ f3_; subst f4_; subst f5_))
                            refine hK.out _ _ ⟨(blk_cell BK258.out 0).trans rfl, (blk_cell BK258.out 1).trans rfl, (blk_cell BK258.out 2).trans rfl, (blk_cell BK258.out 3).trans rfl, (blk_cell BK258.out 4).trans rfl⟩ (fun hHeld => ?_)
                            clear hK K
                            refine norm_ (a' := ?_) ?_ ?_
                            rotate_left
                            · show Act.put _ (some 48) _ = _
                              simp only [Act.put, List.setIfInBounds_toArray, List.set_cons_zero, List.set_cons_succ, i64_w, i32_w]
                              rfl
                            refine two_ (i := 4) (j := 8) (Ni := some 49) (Nj := some 10) #[true, true, true, true, true, false, false, false, false, false, false] #[true, true, true, true, false, false, false, false, true, false, false] rfl rfl rfl rfl (two_of HT_.out (by kernel_rfl)) (by decide) (by decide) (fun K hK => ?_) (fun K hK => ?_)
                            · skip
                              refine goes_ Tryd.func27 (by kernel_rfl) rfl #[.int .i64 ((rd_T36 l0 x14_1).f0), .slice Ao30 t266.length co30] (by rfl) rfl rfl (by (try simp only [List.map_toArray, List.map_cons, List.map_nil]); first | done | rfl | (simp only [List.length_drop, List.length_take]; rfl)) ?_
                              with_reducible refine (fletchref21_made.calls k2 ((rd_T36 l0 x14_1).f0) _ _ t266 t269 t270 t271 t272 t273 true _ ?side1 ?side2 A25.out).mono ?_
                              (case side1 => repeat (first | exact (Kd.R_reads' HO268.out).2.2 | (with_reducible refine Kd.C_alloc ?_ _) | (with_reducible refine Kd.C_drewN ?_ _) | (with_reducible refine Kd.C_drew ?_)))
                              (case side2 => exact (Kd.R_reads' HO268.out).2.1)
                              rintro e w31 ⟨rfl, hb⟩
                              refine ⟨_, rfl, ?_⟩
                              have n0_ := Aside0.mk (Kd.R_below (by (with_reducible repeat (first | apply Kd.R_alloc | apply Kd.R_drewN | apply Kd.R_drew)); exact HO_26.out) hb)
                              have n1_ := Aside0.mk (Kd.R_below (by (with_reducible repeat (first | apply Kd.R_alloc | apply Kd.R_drewN | apply Kd.R_drew)); exact HO268.out) hb)
                              have n2_ := Aside0.mk (blk_below (g := gb258) (o := .cells #[.int .i64 ((rd_T36 l0 x14_1).f0), .int .i64 ((rd_T36 l0 x14_1).f1), .int .i64 ((rd_T36 l0 x14_1).f2), .int .i64 ((rd_T36 l0 x14_1).f3), .int .i64 ((rd_T36 l0 x14_1).f4)] 36 (0, 0)) (by (with_reducible repeat (first | refine blk_drewN ?_ _ | refine blk_drew ?_ | refine blk_alloc ?_ _)); exact BK258.out) hb)
                              have n3_ := Aside0.mk (below_step (by repeat (first | (with_reducible first | exact HB.out | apply below_alloc | apply pw_below_drewN | apply below_drew1 | refine below_set ?_ GE258.out) | exact HB.out)) hb)
                              clear HO_26
                              clear HO268
                              clear BK258
                              clear HB
                              have HO_26 := n0_
                              have HO268 := n1_
                              have BK258 := n2_
                              have HB := n3_
                              clear n0_ n1_ n2_ n3_
                              (try clear hb)
                              (try clear hb2)
                              (try clear hk)
                              (try clear hi)
                              refine hK.out _ _ ⟨(blk_cell BK258.out 0).trans rfl, (blk_cell BK258.out 1).trans rfl, (blk_cell BK258.out 2).trans rfl, (blk_cell BK258.out 3).trans rfl, (blk_cell BK258.out 4).trans rfl⟩ (fun hHeld => ?_)
                              clear hK K
                              refine norm_ (a' := ?_) ?_ ?_
                              rotate_left
                              · show Act.put _ (some 49) _ = _
                                simp only [Act.put, List.setIfInBounds_toArray, List.set_cons_zero, List.set_cons_succ, i64_w, i32_w]
                                rfl
                              refine pure_ (i := 5) (N := some 44) (v := ?_) (a' := ?_) #[true, true, true, true, true, true, false, false, false, false, false] rfl rfl (any_of HT_.out (by kernel_rfl)) (fun _ _ _ h => h) (Or.inl ⟨by rfl, ?_⟩) ?_ ?_
                              rotate_left
                              · intro w'
                                go_simp
                                with_reducible rfl
                              rotate_left
                              · simp only [Act.put, List.setIfInBounds_toArray, List.set_cons_zero, List.set_cons_succ, i64_w, i32_w]
                                rfl
                              refine pure_ (i := 6) (N := some 50) (v := ?_) (a' := ?_) #[true, true, true, true, true, true, true, false, false, false, false] rfl rfl (any_of HT_.out (by kernel_rfl)) (fun _ _ _ h => h) (Or.inl ⟨by rfl, ?_⟩) ?_ ?_
                              rotate_left
                              · intro w'
                                go_simp
                                with_reducible rfl
                              rotate_left
                              · simp only [Act.put, List.setIfInBounds_toArray, List.set_cons_zero, List.set_cons_succ, i64_w, i32_w]
                                rfl
                              refine pure_ (i := 7) (N := some 51) (v := ?_) (a' := ?_) #[true, true, true, true, true, true, true, true, false, false, false] rfl rfl (any_of HT_.out (by kernel_rfl)) (fun _ _ _ h => h) (Or.inl ⟨by rfl, ?_⟩) ?_ ?_
                              rotate_left
                              · intro w'
                                go_simp
                                with_reducible rfl
                              rotate_left
                              · simp only [Act.put, List.setIfInBounds_toArray, List.set_cons_zero, List.set_cons_succ, i64_w, i32_w]
                                rfl
                              refine one_ (i := 8) (N := some 10) #[true, true, true, true, true, true, true, true, true, false, false] rfl rfl (one_of HT_.out (by kernel_rfl)) (by decide) (fun K hK => ?_)
                              refine box_step ?hg (N := 10) ?hd (cs := #[.int .i64 0, .int .i64 0, .int .i64 0, .int .i64 0, .int .i64 0]) (t := 36) ?hr ?_; (case hd => rfl); (case hg => rfl); (case hr => first | (go_simp; done) | (go_simp; rfl))
                              intro gb275 hg w32 hbox hb
                              have n0_ := Aside0.mk (Kd.R_below (by (with_reducible repeat (first | apply Kd.R_alloc | apply Kd.R_drewN | apply Kd.R_drew)); exact HO_26.out) hb)
                              have n1_ := Aside0.mk (Kd.R_below (by (with_reducible repeat (first | apply Kd.R_alloc | apply Kd.R_drewN | apply Kd.R_drew)); exact HO268.out) hb)
                              have n2_ := Aside0.mk (blk_below (g := gb258) (o := .cells #[.int .i64 ((rd_T36 l0 x14_1).f0), .int .i64 ((rd_T36 l0 x14_1).f1), .int .i64 ((rd_T36 l0 x14_1).f2), .int .i64 ((rd_T36 l0 x14_1).f3), .int .i64 ((rd_T36 l0 x14_1).f4)] 36 (0, 0)) (by (with_reducible repeat (first | refine blk_drewN ?_ _ | refine blk_drew ?_ | refine blk_alloc ?_ _)); exact BK258.out) hb)
                              have n3_ := Aside0.mk (below_step (by repeat (first | (with_reducible first | exact HB.out | apply below_alloc | apply pw_below_drewN | apply below_drew1 | refine below_set ?_ GE258.out) | exact HB.out)) hb)
                              have n4_ := Aside0.mk (hbox)
                              have n5_ := Aside0.mk ((by rw [hg]; exact (below_size (by repeat (first | (with_reducible first | exact HB.out | apply below_alloc | apply pw_below_drewN | apply below_drew1 | refine below_set ?_ GE258.out) | exact HB.out))) : w.heap.size ≤ gb275))
                              have n6_ := Aside0.mk ((by rw [hg]; exact (below_size (by repeat (first | (with_reducible first | exact HB.out | apply below_alloc | apply pw_below_drewN | apply below_drew1 | refine below_set ?_ GE258.out) | exact HB.out))) : w.heap.size ≤ gb275))
                              have n7_ := Aside0.mk ((by rw [hg]; exact Nat.ne_of_lt (blk_lt (g := gb258) (o := .cells #[.int .i64 ((rd_T36 l0 x14_1).f0), .int .i64 ((rd_T36 l0 x14_1).f1), .int .i64 ((rd_T36 l0 x14_1).f2), .int .i64 ((rd_T36 l0 x14_1).f3), .int .i64 ((rd_T36 l0 x14_1).f4)] 36 (0, 0)) (by (with_reducible repeat (first | refine blk_drewN ?_ _ | refine blk_drew ?_ | refine blk_alloc ?_ _)); exact BK258.out)) : gb258 ≠ gb275))
                              have n8_ := Aside0.mk ((by rw [hg]; exact Nat.ne_of_gt (blk_lt (g := gb258) (o := .cells #[.int .i64 ((rd_T36 l0 x14_1).f0), .int .i64 ((rd_T36 l0 x14_1).f1), .int .i64 ((rd_T36 l0 x14_1).f2), .int .i64 ((rd_T36 l0 x14_1).f3), .int .i64 ((rd_T36 l0 x14_1).f4)] 36 (0, 0)) (by (with_reducible repeat (first | refine blk_drewN ?_ _ | refine blk_drew ?_ | refine blk_alloc ?_ _)); exact BK258.out)) : gb275 ≠ gb258))
                              clear HO_26
                              clear HO268
                              clear BK258
                              clear HB
                              have HO_26 := n0_
                              have HO268 := n1_
                              have BK258 := n2_
                              have HB := n3_
                              have BK275 := n4_
                              have GW275 := n5_
                              have GE275 := n6_
                              have NB258_275 := n7_
                              have NB275_258 := n8_
                              clear n0_ n1_ n2_ n3_ n4_ n5_ n6_ n7_ n8_
                              clear hb hbox hg
                              refine hK.out _ _ ⟨(blk_cell BK258.out 0).trans rfl, (blk_cell BK258.out 1).trans rfl, (blk_cell BK258.out 2).trans rfl, (blk_cell BK258.out 3).trans rfl, (blk_cell BK258.out 4).trans rfl⟩ (fun hHeld => ?_)
                              clear hK K
                              refine norm_ (a' := ?_) ?_ ?_
                              rotate_left
                              · show Act.put _ (some 10) _ = _
                                simp only [Act.put, List.setIfInBounds_toArray, List.set_cons_zero, List.set_cons_succ, i64_w, i32_w]
                                rfl
                              exact norm_ (by simp only [putAll, Act.put, List.setIfInBounds_toArray, List.set_cons_zero, List.set_cons_succ]) (hCont (.slice Ao30 t266.length co30, gb275) _ ⟨hHeld, (by (with_reducible repeat (first | apply Kd.R_alloc | apply Kd.R_drewN | apply Kd.R_drew)); exact Kd.R_mono HO268.out (fun _ hk => hk.2)), (by (with_reducible repeat (first | apply Kd.R_alloc | apply Kd.R_drewN | apply Kd.R_drew)); exact Kd.R_mono HO_26.out (fun _ hk => hk.2)), (by (with_reducible repeat (first | refine blk_drewN ?_ _ | refine blk_drew ?_ | refine blk_alloc ?_ _)); exact BK258.out), (by (with_reducible repeat (first | refine blk_drewN ?_ _ | refine blk_drew ?_ | refine blk_alloc ?_ _)); exact BK275.out), GW275.out, GE275.out, NB258_275.out, NB275_258.out, (by repeat (first | (with_reducible first | exact HB.out | apply below_alloc | apply pw_below_drewN | apply below_drew1 | refine below_set ?_ GE258.out | refine below_set ?_ GE275.out) | exact HB.out))⟩)
                            · skip
                              refine box_step ?hg (N := 10) ?hd (cs := #[.int .i64 0, .int .i64 0, .int .i64 0, .int .i64 0, .int .i64 0]) (t := 36) ?hr ?_; (case hd => rfl); (case hg => rfl); (case hr => first | (go_simp; done) | (go_simp; rfl))
                              intro gb275 hg w30 hbox hb
                              have n0_ := Aside0.mk (Kd.R_below (by (with_reducible repeat (first | apply Kd.R_alloc | apply Kd.R_drewN | apply Kd.R_drew)); exact HO_26.out) hb)
                              have n1_ := Aside0.mk (Kd.R_below (by (with_reducible repeat (first | apply Kd.R_alloc | apply Kd.R_drewN | apply Kd.R_drew)); exact HO268.out) hb)
                              have n2_ := Aside0.mk (blk_below (g := gb258) (o := .cells #[.int .i64 ((rd_T36 l0 x14_1).f0), .int .i64 ((rd_T36 l0 x14_1).f1), .int .i64 ((rd_T36 l0 x14_1).f2), .int .i64 ((rd_T36 l0 x14_1).f3), .int .i64 ((rd_T36 l0 x14_1).f4)] 36 (0, 0)) (by (with_reducible repeat (first | refine blk_drewN ?_ _ | refine blk_drew ?_ | refine blk_alloc ?_ _)); exact BK258.out) hb)
                              have n3_ := Aside0.mk (below_step (by repeat (first | (with_reducible first | exact HB.out | apply below_alloc | apply pw_below_drewN | apply below_drew1 | refine below_set ?_ GE258.out) | exact HB.out)) hb)
                              have n4_ := Aside0.mk (hbox)
                              have n5_ := Aside0.mk ((by rw [hg]; exact (below_size (by repeat (first | (with_reducible first | exact HB.out | apply below_alloc | apply pw_below_drewN | apply below_drew1 | refine below_set ?_ GE258.out) | exact HB.out))) : w.heap.size ≤ gb275))
                              have n6_ := Aside0.mk ((by rw [hg]; exact (below_size (by repeat (first | (with_reducible first | exact HB.out | apply below_alloc | apply pw_below_drewN | apply below_drew1 | refine below_set ?_ GE258.out) | exact HB.out))) : w.heap.size ≤ gb275))
                              have n7_ := Aside0.mk ((by rw [hg]; exact Nat.ne_of_lt (blk_lt (g := gb258) (o := .cells #[.int .i64 ((rd_T36 l0 x14_1).f0), .int .i64 ((rd_T36 l0 x14_1).f1), .int .i64 ((rd_T36 l0 x14_1).f2), .int .i64 ((rd_T36 l0 x14_1).f3), .int .i64 ((rd_T36 l0 x14_1).f4)] 36 (0, 0)) (by (with_reducible repeat (first | refine blk_drewN ?_ _ | refine blk_drew ?_ | refine blk_alloc ?_ _)); exact BK258.out)) : gb258 ≠ gb275))
                              have n8_ := Aside0.mk ((by rw [hg]; exact Nat.ne_of_gt (blk_lt (g := gb258) (o := .cells #[.int .i64 ((rd_T36 l0 x14_1).f0), .int .i64 ((rd_T36 l0 x14_1).f1), .int .i64 ((rd_T36 l0 x14_1).f2), .int .i64 ((rd_T36 l0 x14_1).f3), .int .i64 ((rd_T36 l0 x14_1).f4)] 36 (0, 0)) (by (with_reducible repeat (first | refine blk_drewN ?_ _ | refine blk_drew ?_ | refine blk_alloc ?_ _)); exact BK258.out)) : gb275 ≠ gb258))
                              clear HO_26
                              clear HO268
                              clear BK258
                              clear HB
                              have HO_26 := n0_
                              have HO268 := n1_
                              have BK258 := n2_
                              have HB := n3_
                              have BK275 := n4_
                              have GW275 := n5_
                              have GE275 := n6_
                              have NB258_275 := n7_
                              have NB275_258 := n8_
                              clear n0_ n1_ n2_ n3_ n4_ n5_ n6_ n7_ n8_
                              clear hb hbox hg
                              obtain ⟨Ao31, co31, eo31⟩ := Kd.R_slice HO268.out
                              (first | subst eo31 | (injection eo31 with f1_ f2_ f3_; have f4_ := f1_.symm; have f5_ := f3_.symm; clear f1_ f2_ f3_; subst f4_; subst f5_))
                              refine hK.out _ _ ⟨(blk_cell BK258.out 0).trans rfl, (blk_cell BK258.out 1).trans rfl, (blk_cell BK258.out 2).trans rfl, (blk_cell BK258.out 3).trans rfl, (blk_cell BK258.out 4).trans rfl⟩ (fun hHeld => ?_)
                              clear hK K
                              refine norm_ (a' := ?_) ?_ ?_
                              rotate_left
                              · show Act.put _ (some 10) _ = _
                                simp only [Act.put, List.setIfInBounds_toArray, List.set_cons_zero, List.set_cons_succ, i64_w, i32_w]
                                rfl
                              refine one_ (i := 4) (N := some 49) #[true, true, true, true, true, false, false, false, true, false, false] rfl rfl (one_of HT_.out (by kernel_rfl)) (by decide) (fun K hK => ?_)
                              refine goes_ Tryd.func27 (by kernel_rfl) rfl #[.int .i64 ((rd_T36 l0 x14_1).f0), .slice Ao31 t266.length co31] (by rfl) rfl rfl (by (try simp only [List.map_toArray, List.map_cons, List.map_nil]); first | done | rfl | (simp only [List.length_drop, List.length_take]; rfl)) ?_
                              with_reducible refine (fletchref21_made.calls k2 ((rd_T36 l0 x14_1).f0) _ _ t266 t269 t270 t271 t272 t273 true _ ?side1 ?side2 A25.out).mono ?_
                              (case side1 => repeat (first | exact (Kd.R_reads' HO268.out).2.2 | (with_reducible refine Kd.C_alloc ?_ _) | (with_reducible refine Kd.C_drewN ?_ _) | (with_reducible refine Kd.C_drew ?_)))
                              (case side2 => exact (Kd.R_reads' HO268.out).2.1)
                              rintro e w32 ⟨rfl, hb⟩
                              refine ⟨_, rfl, ?_⟩
                              have n0_ := Aside0.mk (Kd.R_below (by (with_reducible repeat (first | apply Kd.R_alloc | apply Kd.R_drewN | apply Kd.R_drew)); exact HO_26.out) hb)
                              have n1_ := Aside0.mk (Kd.R_below (by (with_reducible repeat (first | apply Kd.R_alloc | apply Kd.R_drewN | apply Kd.R_drew)); exact HO268.out) hb)
                              have n2_ := Aside0.mk (blk_below (g := gb258) (o := .cells #[.int .i64 ((rd_T36 l0 x14_1).f0), .int .i64 ((rd_T36 l0 x14_1).f1), .int .i64 ((rd_T36 l0 x14_1).f2), .int .i64 ((rd_T36 l0 x14_1).f3), .int .i64 ((rd_T36 l0 x14_1).f4)] 36 (0, 0)) (by (with_reducible repeat (first | refine blk_drewN ?_ _ | refine blk_drew ?_ | refine blk_alloc ?_ _)); exact BK258.out) hb)
                              have n3_ := Aside0.mk (blk_below (g := gb275) (o := .cells #[.int .i64 0, .int .i64 0, .int .i64 0, .int .i64 0, .int .i64 0] 36 (0, 0)) (by (with_reducible repeat (first | refine blk_drewN ?_ _ | refine blk_drew ?_ | refine blk_alloc ?_ _)); exact BK275.out) hb)
                              have n4_ := Aside0.mk (below_step (by repeat (first | (with_reducible first | exact HB.out | apply below_alloc | apply pw_below_drewN | apply below_drew1 | refine below_set ?_ GE258.out | refine below_set ?_ GE275.out) | exact HB.out)) hb)
                              clear HO_26
                              clear HO268
                              clear BK258
                              clear BK275
                              clear HB
                              have HO_26 := n0_
                              have HO268 := n1_
                              have BK258 := n2_
                              have BK275 := n3_
                              have HB := n4_
                              clear n0_ n1_ n2_ n3_ n4_
                              (try clear hb)
                              (try clear hb2)
                              (try clear hk)
                              (try clear hi)
                              refine hK.out _ _ ⟨(blk_cell BK258.out 0).trans rfl, (blk_cell BK258.out 1).trans rfl, (blk_cell BK258.out 2).trans rfl, (blk_cell BK258.out 3).trans rfl, (blk_cell BK258.out 4).trans rfl⟩ (fun hHeld => ?_)
                              clear hK K
                              refine norm_ (a' := ?_) ?_ ?_
                              rotate_left
                              · show Act.put _ (some 49) _ = _
                                simp only [Act.put, List.setIfInBounds_toArray, List.set_cons_zero, List.set_cons_succ, i64_w, i32_w]
                                rfl
                              refine pure_ (i := 5) (N := some 44) (v := ?_) (a' := ?_) #[true, true, true, true, true, true, false, false, true, false, false] rfl rfl (any_of HT_.out (by kernel_rfl)) (fun _ _ _ h => h) (Or.inl ⟨by rfl, ?_⟩) ?_ ?_
                              rotate_left
                              · intro w'
                                go_simp
                                with_reducible rfl
                              rotate_left
                              · simp only [Act.put, List.setIfInBounds_toArray, List.set_cons_zero, List.set_cons_succ, i64_w, i32_w]
                                rfl
                              refine pure_ (i := 6) (N := some 50) (v := ?_) (a' := ?_) #[true, true, true, true, true, true, true, false, true, false, false] rfl rfl (any_of HT_.out (by kernel_rfl)) (fun _ _ _ h => h) (Or.inl ⟨by rfl, ?_⟩) ?_ ?_
                              rotate_left
                              · intro w'
                                go_simp
                                with_reducible rfl
                              rotate_left
                              · simp only [Act.put, List.setIfInBounds_toArray, List.set_cons_zero, List.set_cons_succ, i64_w, i32_w]
                                rfl
                              refine pure_ (i := 7) (N := some 51) (v := ?_) (a' := ?_) #[true, true, true, true, true, true, true, true, true, false, false] rfl rfl (any_of HT_.out (by kernel_rfl)) (fun _ _ _ h => h) (Or.inl ⟨by rfl, ?_⟩) ?_ ?_
                              rotate_left
                              · intro w'
                                go_simp
                                with_reducible rfl
                              rotate_left
                              · simp only [Act.put, List.setIfInBounds_toArray, List.set_cons_zero, List.set_cons_succ, i64_w, i32_w]
                                rfl
                              exact norm_ (by simp only [putAll, Act.put, List.setIfInBounds_toArray, List.set_cons_zero, List.set_cons_succ]) (hCont (.slice Ao31 t266.length co31, gb275) _ ⟨hHeld, (by (with_reducible repeat (first | apply Kd.R_alloc | apply Kd.R_drewN | apply Kd.R_drew)); exact Kd.R_mono HO268.out (fun _ hk => hk.2)), (by (with_reducible repeat (first | apply Kd.R_alloc | apply Kd.R_drewN | apply Kd.R_drew)); exact Kd.R_mono HO_26.out (fun _ hk => hk.2)), (by (with_reducible repeat (first | refine blk_drewN ?_ _ | refine blk_drew ?_ | refine blk_alloc ?_ _)); exact BK258.out), (by (with_reducible repeat (first | refine blk_drewN ?_ _ | refine blk_drew ?_ | refine blk_alloc ?_ _)); exact BK275.out), GW275.out, GE275.out, NB258_275.out, NB275_258.out, (by repeat (first | (with_reducible first | exact HB.out | apply below_alloc | apply pw_below_drewN | apply below_drew1 | refine below_set ?_ GE258.out | refine below_set ?_ GE275.out) | exact HB.out))⟩)
                          · skip
                            refine box_step ?hg (N := 10) ?hd (cs := #[.int .i64 0, .int .i64 0, .int .i64 0, .int .i64 0, .int .i64 0]) (t := 36) ?hr ?_; (case hd => rfl); (case hg => rfl); (case hr => first | (go_simp; done) | (go_simp; rfl))
                            intro gb275 hg w29 hbox hb
                            have n0_ := Aside0.mk (Kd.R_below (by (with_reducible repeat (first | apply Kd.R_alloc | apply Kd.R_drewN | apply Kd.R_drew)); exact HO_26.out) hb)
                            have n1_ := Aside0.mk (blk_below (g := gb258) (o := .cells #[.int .i64 ((rd_T36 l0 x14_1).f0), .int .i64 ((rd_T36 l0 x14_1).f1), .int .i64 ((rd_T36 l0 x14_1).f2), .int .i64 ((rd_T36 l0 x14_1).f3), .int .i64 ((rd_T36 l0 x14_1).f4)] 36 (0, 0)) (by (with_reducible repeat (first | refine blk_drewN ?_ _ | refine blk_drew ?_ | refine blk_alloc ?_ _)); exact BK258.out) hb)
                            have n2_ := Aside0.mk (below_step (by repeat (first | (with_reducible first | exact HB.out | apply below_alloc | apply pw_below_drewN | apply below_drew1 | refine below_set ?_ GE258.out) | exact HB.out)) hb)
                            have n3_ := Aside0.mk (hbox)
                            have n4_ := Aside0.mk ((by rw [hg]; exact (below_size (by repeat (first | (with_reducible first | exact HB.out | apply below_alloc | apply pw_below_drewN | apply below_drew1 | refine below_set ?_ GE258.out) | exact HB.out))) : w.heap.size ≤ gb275))
                            have n5_ := Aside0.mk ((by rw [hg]; exact (below_size (by repeat (first | (with_reducible first | exact HB.out | apply below_alloc | apply pw_below_drewN | apply below_drew1 | refine below_set ?_ GE258.out) | exact HB.out))) : w.heap.size ≤ gb275))
                            have n6_ := Aside0.mk ((by rw [hg]; exact Nat.ne_of_lt (blk_lt (g := gb258) (o := .cells #[.int .i64 ((rd_T36 l0 x14_1).f0), .int .i64 ((rd_T36 l0 x14_1).f1), .int .i64 ((rd_T36 l0 x14_1).f2), .int .i64 ((rd_T36 l0 x14_1).f3), .int .i64 ((rd_T36 l0 x14_1).f4)] 36 (0, 0)) (by (with_reducible repeat (first | refine blk_drewN ?_ _ | refine blk_drew ?_ | refine blk_alloc ?_ _)); exact BK258.out)) : gb258 ≠ gb275))
                            have n7_ := Aside0.mk ((by rw [hg]; exact Nat.ne_of_gt (blk_lt (g := gb258) (o := .cells #[.int .i64 ((rd_T36 l0 x14_1).f0), .int .i64 ((rd_T36 l0 x14_1).f1), .int .i64 ((rd_T36 l0 x14_1).f2), .int .i64 ((rd_T36 l0 x14_1).f3), .int .i64 ((rd_T36 l0 x14_1).f4)] 36 (0, 0)) (by (with_reducible repeat (first | refine blk_drewN ?_ _ | refine blk_drew ?_ | refine blk_alloc ?_ _)); exact BK258.out)) : gb275 ≠ gb258))
                            clear HO_26
                            clear BK258
                            clear HB
                            have HO_26 := n0_
                            have BK258 := n1_
                            have HB := n2_
                            have BK275 := n3_
                            have GW275 := n4_
                            have GE275 := n5_
                            have NB258_275 := n6_
                            have NB275_258 := n7_
                            clear n0_ n1_ n2_ n3_ n4_ n5_ n6_ n7_
                            clear hb hbox hg
                            refine hK.out _ _ ⟨(blk_cell BK258.out 0).trans rfl, (blk_cell BK258.out 1).trans rfl, (blk_cell BK258.out 2).trans rfl, (blk_cell BK258.out 3).trans rfl, (blk_cell BK258.out 4).trans rfl⟩ (fun hHeld => ?_)
                            clear hK K
                            refine norm_ (a' := ?_) ?_ ?_
                            rotate_left
                            · show Act.put _ (some 10) _ = _
                              simp only [Act.put, List.setIfInBounds_toArray, List.set_cons_zero, List.set_cons_succ, i64_w, i32_w]
                              rfl
                            refine one_ (i := 3) (N := some 48) #[true, true, true, true, false, false, false, false, true, false, false] rfl rfl (one_of HT_.out (by kernel_rfl)) (by decide) (fun K hK => ?_)
                            refine goes_ Tryd.func26 (by kernel_rfl) rfl #[.agg #[.int .i64 ((rd_T36 l0 x14_1).f0), .int .i64 ((rd_T36 l0 x14_1).f1), .int .i64 ((rd_T36 l0 x14_1).f2), .int .i64 ((rd_T36 l0 x14_1).f3), .int .i64 ((rd_T36 l0 x14_1).f4)]] (by rfl) rfl rfl (by (try simp only [List.map_toArray, List.map_cons, List.map_nil]); first | done | rfl | (simp only [List.length_drop, List.length_take]; rfl)) ?_
                            with_reducible refine (fletchref21_told.calls k2 ((rd_T36 l0 x14_1).f0) ((rd_T36 l0 x14_1).f1) ((rd_T36 l0 x14_1).f2) ((rd_T36 l0 x14_1).f3) ((rd_T36 l0 x14_1).f4) t266 _ A24.out).mono ?_
                            rintro e w30 ⟨v267, rfl, ho0, hb⟩
                            refine ⟨_, rfl, ?_⟩
                            have n0_ := Aside0.mk (Kd.R_elder' (by (with_reducible repeat (first | apply Kd.R_alloc | apply Kd.R_drewN | apply Kd.R_drew)); exact HO_26.out) (Kd.R_base ho0) hb)
                            have n1_ := Aside0.mk (Kd.R_lower (Kd.R_new' ho0 (Kd.R_lt (by (with_reducible repeat (first | apply Kd.R_alloc | apply Kd.R_drewN | apply Kd.R_drew)); exact HO_26.out))) (below_size (by repeat (first | (with_reducible first | exact HB.out | apply below_alloc | apply pw_below_drewN | apply below_drew1 | refine below_set ?_ GE258.out | refine below_set ?_ GE275.out) | exact HB.out))))
                            have n2_ := Aside0.mk (blk_below (g := gb258) (o := .cells #[.int .i64 ((rd_T36 l0 x14_1).f0), .int .i64 ((rd_T36 l0 x14_1).f1), .int .i64 ((rd_T36 l0 x14_1).f2), .int .i64 ((rd_T36 l0 x14_1).f3), .int .i64 ((rd_T36 l0 x14_1).f4)] 36 (0, 0)) (by (with_reducible repeat (first | refine blk_drewN ?_ _ | refine blk_drew ?_ | refine blk_alloc ?_ _)); exact BK258.out) hb)
                            have n3_ := Aside0.mk (blk_below (g := gb275) (o := .cells #[.int .i64 0, .int .i64 0, .int .i64 0, .int .i64 0, .int .i64 0] 36 (0, 0)) (by (with_reducible repeat (first | refine blk_drewN ?_ _ | refine blk_drew ?_ | refine blk_alloc ?_ _)); exact BK275.out) hb)
                            have n4_ := Aside0.mk (below_step (by repeat (first | (with_reducible first | exact HB.out | apply below_alloc | apply pw_below_drewN | apply below_drew1 | refine below_set ?_ GE258.out | refine below_set ?_ GE275.out) | exact HB.out)) hb)
                            clear HO_26
                            clear BK258
                            clear BK275
                            clear HB
                            have HO_26 := n0_
                            have HO268 := n1_
                            have BK258 := n2_
                            have BK275 := n3_
                            have HB := n4_
                            clear n0_ n1_ n2_ n3_ n4_
                            (try clear hb)
                            (try clear hb2)
                            (try clear hk)
                            (try clear hi)
                            (try clear ho0)
                            obtain ⟨Ao31, co31, eo31⟩ := Kd.R_slice HO268.out
                            (first | subst eo31 | (injection eo31 with f1_ f2_ f3_; have f4_ := f1_.symm; have f5_ := f3_.symm; clear f1_ f2_ f3_; subst f4_; subst f5_))
                            refine hK.out _ _ ⟨(blk_cell BK258.out 0).trans rfl, (blk_cell BK258.out 1).trans rfl, (blk_cell BK258.out 2).trans rfl, (blk_cell BK258.out 3).trans rfl, (blk_cell BK258.out 4).trans rfl⟩ (fun hHeld => ?_)
                            clear hK K
                            refine norm_ (a' := ?_) ?_ ?_
                            rotate_left
                            · show Act.put _ (some 48) _ = _
                              simp only [Act.put, List.setIfInBounds_toArray, List.set_cons_zero, List.set_cons_succ, i64_w, i32_w]
                              rfl
                            refine one_ (i := 4) (N := some 49) #[true, true, true, true, true, false, false, false, true, false, false] rfl rfl (one_of HT_.out (by kernel_rfl)) (by decide) (fun K hK => ?_)
                            refine goes_ Tryd.func27 (by kernel_rfl) rfl #[.int .i64 ((rd_T36 l0 x14_1).f0), .slice Ao31 t266.length co31] (by rfl) rfl rfl (by (try simp only [List.map_toArray, List.map_cons, List.map_nil]); first | done | rfl | (simp only [List.length_drop, List.length_take]; rfl)) ?_
                            with_reducible refine (fletchref21_made.calls k2 ((rd_T36 l0 x14_1).f0) _ _ t266 t269 t270 t271 t272 t273 true _ ?side1 ?side2 A25.out).mono ?_
                            (case side1 => repeat (first | exact (Kd.R_reads' HO268.out).2.2 | (with_reducible refine Kd.C_alloc ?_ _) | (with_reducible refine Kd.C_drewN ?_ _) | (with_reducible refine Kd.C_drew ?_)))
                            (case side2 => exact (Kd.R_reads' HO268.out).2.1)
                            rintro e w32 ⟨rfl, hb⟩
                            refine ⟨_, rfl, ?_⟩
                            have n0_ := Aside0.mk (Kd.R_below (by (with_reducible repeat (first | apply Kd.R_alloc | apply Kd.R_drewN | apply Kd.R_drew)); exact HO_26.out) hb)
                            have n1_ := Aside0.mk (Kd.R_below (by (with_reducible repeat (first | apply Kd.R_alloc | apply Kd.R_drewN | apply Kd.R_drew)); exact HO268.out) hb)
                            have n2_ := Aside0.mk (blk_below (g := gb258) (o := .cells #[.int .i64 ((rd_T36 l0 x14_1).f0), .int .i64 ((rd_T36 l0 x14_1).f1), .int .i64 ((rd_T36 l0 x14_1).f2), .int .i64 ((rd_T36 l0 x14_1).f3), .int .i64 ((rd_T36 l0 x14_1).f4)] 36 (0, 0)) (by (with_reducible repeat (first | refine blk_drewN ?_ _ | refine blk_drew ?_ | refine blk_alloc ?_ _)); exact BK258.out) hb)
                            have n3_ := Aside0.mk (blk_below (g := gb275) (o := .cells #[.int .i64 0, .int .i64 0, .int .i64 0, .int .i64 0, .int .i64 0] 36 (0, 0)) (by (with_reducible repeat (first | refine blk_drewN ?_ _ | refine blk_drew ?_ | refine blk_alloc ?_ _)); exact BK275.out) hb)
                            have n4_ := Aside0.mk (below_step (by repeat (first | (with_reducible first | exact HB.out | apply below_alloc | apply pw_below_drewN | apply below_drew1 | refine below_set ?_ GE258.out | refine below_set ?_ GE275.out) | exact HB.out)) hb)
                            clear HO_26
                            clear HO268
                            clear BK258
                            clear BK275
                            clear HB
                            have HO_26 := n0_
                            have HO268 := n1_
                            have BK258 := n2_
                            have BK275 := n3_
                            have HB := n4_
                            clear n0_ n1_ n2_ n3_ n4_
                            (try clear hb)
                            (try clear hb2)
                            (try clear hk)
                            (try clear hi)
                            refine hK.out _ _ ⟨(blk_cell BK258.out 0).trans rfl, (blk_cell BK258.out 1).trans rfl, (blk_cell BK258.out 2).trans rfl, (blk_cell BK258.out 3).trans rfl, (blk_cell BK258.out 4).trans rfl⟩ (fun hHeld => ?_)
                            clear hK K
                            refine norm_ (a' := ?_) ?_ ?_
                            rotate_left
                            · show Act.put _ (some 49) _ = _
                              simp only [Act.put, List.setIfInBounds_toArray, List.set_cons_zero, List.set_cons_succ, i64_w, i32_w]
                              rfl
                            refine pure_ (i := 5) (N := some 44) (v := ?_) (a' := ?_) #[true, true, true, true, true, true, false, false, true, false, false] rfl rfl (any_of HT_.out (by kernel_rfl)) (fun _ _ _ h => h) (Or.inl ⟨by rfl, ?_⟩) ?_ ?_
                            rotate_left
                            · intro w'
                              go_simp
                              with_reducible rfl
                            rotate_left
                            · simp only [Act.put, List.setIfInBounds_toArray, List.set_cons_zero, List.set_cons_succ, i64_w, i32_w]
                              rfl
                            refine pure_ (i := 6) (N := some 50) (v := ?_) (a' := ?_) #[true, true, true, true, true, true, true, false, true, false, false] rfl rfl (any_of HT_.out (by kernel_rfl)) (fun _ _ _ h => h) (Or.inl ⟨by rfl, ?_⟩) ?_ ?_
                            rotate_left
                            · intro w'
                              go_simp
                              with_reducible rfl
                            rotate_left
                            · simp only [Act.put, List.setIfInBounds_toArray, List.set_cons_zero, List.set_cons_succ, i64_w, i32_w]
                              rfl
                            refine pure_ (i := 7) (N := some 51) (v := ?_) (a' := ?_) #[true, true, true, true, true, true, true, true, true, false, false] rfl rfl (any_of HT_.out (by kernel_rfl)) (fun _ _ _ h => h) (Or.inl ⟨by rfl, ?_⟩) ?_ ?_
                            rotate_left
                            · intro w'
                              go_simp
                              with_reducible rfl
                            rotate_left
                            · simp only [Act.put, List.setIfInBounds_toArray, List.set_cons_zero, List.set_cons_succ, i64_w, i32_w]
                              rfl
                            exact norm_ (by simp only [putAll, Act.put, List.setIfInBounds_toArray, List.set_cons_zero, List.set_cons_succ]) (hCont (.slice Ao31 t266.length co31, gb275) _ ⟨hHeld, (by (with_reducible repeat (first | apply Kd.R_alloc | apply Kd.R_drewN | apply Kd.R_drew)); exact Kd.R_mono HO268.out (fun _ hk => hk.2)), (by (with_reducible repeat (first | apply Kd.R_alloc | apply Kd.R_drewN | apply Kd.R_drew)); exact Kd.R_mono HO_26.out (fun _ hk => hk.2)), (by (with_reducible repeat (first | refine blk_drewN ?_ _ | refine blk_drew ?_ | refine blk_alloc ?_ _)); exact BK258.out), (by (with_reducible repeat (first | refine blk_drewN ?_ _ | refine blk_drew ?_ | refine blk_alloc ?_ _)); exact BK275.out), GW275.out, GE275.out, NB258_275.out, NB275_258.out, (by repeat (first | (with_reducible first | exact HB.out | apply below_alloc | apply pw_below_drewN | apply below_drew1 | refine below_set ?_ GE258.out | refine below_set ?_ GE275.out) | exact HB.out))⟩)
                        rintro ⟨v267, gb275⟩ w33 ⟨hS_, h0_, h1_, h2_, h3_, h4_, h5_, h6_, h7_, h8_⟩
                        have n0_ : Aside0 (Kd.R (Kd.int .i64) 3 w33 w.heap.size (fun k_ => some k_ ≠ (.slice Ao14 t261.length co14 : Value).ownBlock) v267 t266) := ⟨h0_⟩
                        have n1_ : Aside0 (Kd.R (Kd.int .i64) 3 w33 w.heap.size (fun k_ => some k_ ≠ (v267 : Value).ownBlock) (.slice Ao14 t261.length co14) t261) := ⟨h1_⟩
                        have n2_ : Aside0 (w33.heap[gb258]? = some (.cells #[.int .i64 ((rd_T36 l0 x14_1).f0), .int .i64 ((rd_T36 l0 x14_1).f1), .int .i64 ((rd_T36 l0 x14_1).f2), .int .i64 ((rd_T36 l0 x14_1).f3), .int .i64 ((rd_T36 l0 x14_1).f4)] 36 (0, 0))) := ⟨h2_⟩
                        have n3_ : Aside0 (w33.heap[gb275]? = some (.cells #[.int .i64 0, .int .i64 0, .int .i64 0, .int .i64 0, .int .i64 0] 36 (0, 0))) := ⟨h3_⟩
                        have n4_ : Aside0 (w.heap.size ≤ gb275) := ⟨h4_⟩
                        have n5_ : Aside0 (w.heap.size ≤ gb275) := ⟨h5_⟩
                        have n6_ : Aside0 (gb258 ≠ gb275) := ⟨h6_⟩
                        have n7_ : Aside0 (gb275 ≠ gb258) := ⟨h7_⟩
                        have n8_ : Aside0 (Below w.heap.size w w33) := ⟨h8_⟩
                        clear HO_26
                        clear BK258
                        clear HB
                        clear h0_ h1_ h2_ h3_ h4_ h5_ h6_ h7_ h8_
                        have HO268 := n0_
                        have HO_26 := n1_
                        have BK258 := n2_
                        have BK275 := n3_
                        have GW275 := n4_
                        have GE275 := n5_
                        have NB258_275 := n6_
                        have NB275_258 := n7_
                        have HB := n8_
                        clear n0_ n1_ n2_ n3_ n4_ n5_ n6_ n7_ n8_
                        have hHeld : w33.cell? ⟨gb258, 0, none⟩ = some (.int .i64 ((rd_T36 l0 x14_1).f0)) ∧ w33.cell? ⟨gb258, 1, none⟩ = some (.int .i64 ((rd_T36 l0 x14_1).f1)) ∧ w33.cell? ⟨gb258, 2, none⟩ = some (.int .i64 ((rd_T36 l0 x14_1).f2)) ∧ w33.cell? ⟨gb258, 3, none⟩ = some (.int .i64 ((rd_T36 l0 x14_1).f3)) ∧ w33.cell? ⟨gb258, 4, none⟩ = some (.int .i64 ((rd_T36 l0 x14_1).f4)) := hS_
                        refine norm_ (a' := ?_) ?_ ?_
                        rotate_left
                        · simp only [putAll, Act.put, List.setIfInBounds_toArray, List.set_cons_zero, List.set_cons_succ]
                          rfl
                        refine one_ (i := 9) (N := none) #[true, true, true, true, true, true, true, true, true, true, false] rfl rfl (one_of HT_.out (by kernel_rfl)) (by decide) (fun K hK => ?_)
                        have hs34 : w33.cell? ⟨gb275, 0, none⟩ = some (.int .i64 0) := (blk_cell BK275.out 0).trans rfl
                        have hfs34 := blk_frozen BK275.out 0
                        have hns34_0 := NB258_275.out
                        have hms34_0 := NB275_258.out
                        have hs35 : w33.cell? ⟨gb275, 1, none⟩ = some (.int .i64 0) := (blk_cell BK275.out 1).trans rfl
                        have hfs35 := blk_frozen BK275.out 1
                        have hns35_0 := NB258_275.out
                        have hms35_0 := NB275_258.out
                        have hs36 : w33.cell? ⟨gb275, 2, none⟩ = some (.int .i64 0) := (blk_cell BK275.out 2).trans rfl
                        have hfs36 := blk_frozen BK275.out 2
                        have hns36_0 := NB258_275.out
                        have hms36_0 := NB275_258.out
                        have hs37 : w33.cell? ⟨gb275, 3, none⟩ = some (.int .i64 0) := (blk_cell BK275.out 3).trans rfl
                        have hfs37 := blk_frozen BK275.out 3
                        have hns37_0 := NB258_275.out
                        have hms37_0 := NB275_258.out
                        have hs38 : w33.cell? ⟨gb275, 4, none⟩ = some (.int .i64 0) := (blk_cell BK275.out 4).trans rfl
                        have hfs38 := blk_frozen BK275.out 4
                        have hns38_0 := NB258_275.out
                        have hms38_0 := NB275_258.out
                        refine skip_ (w1 := ?_) (by rfl) rfl ?_ ?_
                        rotate_left
                        · go_simp
                          rfl
                        refine hK.out _ _ ⟨((cell_far (p := ⟨gb275, _, none⟩) NB258_275.out _).trans (((cell_far (p := ⟨gb275, _, none⟩) NB258_275.out _).trans (((cell_far (p := ⟨gb275, _, none⟩) NB258_275.out _).trans (((cell_far (p := ⟨gb275, _, none⟩) NB258_275.out _).trans (((cell_far (p := ⟨gb275, _, none⟩) NB258_275.out _).trans (hHeld.1)))))))))), ((cell_far (p := ⟨gb275, _, none⟩) NB258_275.out _).trans (((cell_far (p := ⟨gb275, _, none⟩) NB258_275.out _).trans (((cell_far (p := ⟨gb275, _, none⟩) NB258_275.out _).trans (((cell_far (p := ⟨gb275, _, none⟩) NB258_275.out _).trans (((cell_far (p := ⟨gb275, _, none⟩) NB258_275.out _).trans (hHeld.2.1)))))))))), ((cell_far (p := ⟨gb275, _, none⟩) NB258_275.out _).trans (((cell_far (p := ⟨gb275, _, none⟩) NB258_275.out _).trans (((cell_far (p := ⟨gb275, _, none⟩) NB258_275.out _).trans (((cell_far (p := ⟨gb275, _, none⟩) NB258_275.out _).trans (((cell_far (p := ⟨gb275, _, none⟩) NB258_275.out _).trans (hHeld.2.2.1)))))))))), ((cell_far (p := ⟨gb275, _, none⟩) NB258_275.out _).trans (((cell_far (p := ⟨gb275, _, none⟩) NB258_275.out _).trans (((cell_far (p := ⟨gb275, _, none⟩) NB258_275.out _).trans (((cell_far (p := ⟨gb275, _, none⟩) NB258_275.out _).trans (((cell_far (p := ⟨gb275, _, none⟩) NB258_275.out _).trans (hHeld.2.2.2.1)))))))))), ((cell_far (p := ⟨gb275, _, none⟩) NB258_275.out _).trans (((cell_far (p := ⟨gb275, _, none⟩) NB258_275.out _).trans (((cell_far (p := ⟨gb275, _, none⟩) NB258_275.out _).trans (((cell_far (p := ⟨gb275, _, none⟩) NB258_275.out _).trans (((cell_far (p := ⟨gb275, _, none⟩) NB258_275.out _).trans (hHeld.2.2.2.2))))))))))⟩ (fun hHeld => ?_)
                        clear hK K
                        refine pure_ (i := 10) (N := some 11) (v := ?_) (a' := ?_) #[true, true, true, true, true, true, true, true, true, true, true] rfl rfl (any_of HT_.out (by kernel_rfl)) (fun _ _ _ h => h) (Or.inl ⟨by rfl, ?_⟩) ?_ ?_
                        rotate_left
                        · intro w'
                          go_simp
                          with_reducible rfl
                        rotate_left
                        · simp only [Act.put, List.setIfInBounds_toArray, List.set_cons_zero, List.set_cons_succ, i64_w, i32_w]
                          rfl
                        refine done_ (done_of HT_.out (by kernel_rfl)) ?_
                        have hnb39 := NB275_258.out
                        have hnc39 := NB258_275.out
                        have hcz40_0 : w33.cell? ⟨gb275, 0, none⟩ = some (.int .i64 0) := (blk_cell BK275.out 0).trans rfl
                        have hcz40_1 : w33.cell? ⟨gb275, 1, none⟩ = some (.int .i64 0) := (blk_cell BK275.out 1).trans rfl
                        have hcz40_2 : w33.cell? ⟨gb275, 2, none⟩ = some (.int .i64 0) := (blk_cell BK275.out 2).trans rfl
                        have hcz40_3 : w33.cell? ⟨gb275, 3, none⟩ = some (.int .i64 0) := (blk_cell BK275.out 3).trans rfl
                        have hcz40_4 : w33.cell? ⟨gb275, 4, none⟩ = some (.int .i64 0) := (blk_cell BK275.out 4).trans rfl
                        have hfz40_0 := blk_frozen BK275.out 0
                        have hfz40_1 := blk_frozen BK275.out 1
                        have hfz40_2 := blk_frozen BK275.out 2
                        have hfz40_3 := blk_frozen BK275.out 3
                        have hfz40_4 := blk_frozen BK275.out 4
                        have hcz41_0 : w33.cell? ⟨gb258, 0, none⟩ = some (.int .i64 ((rd_T36 l0 x14_1).f0)) := (blk_cell BK258.out 0).trans rfl
                        have hcz41_1 : w33.cell? ⟨gb258, 1, none⟩ = some (.int .i64 ((rd_T36 l0 x14_1).f1)) := (blk_cell BK258.out 1).trans rfl
                        have hcz41_2 : w33.cell? ⟨gb258, 2, none⟩ = some (.int .i64 ((rd_T36 l0 x14_1).f2)) := (blk_cell BK258.out 2).trans rfl
                        have hcz41_3 : w33.cell? ⟨gb258, 3, none⟩ = some (.int .i64 ((rd_T36 l0 x14_1).f3)) := (blk_cell BK258.out 3).trans rfl
                        have hcz41_4 : w33.cell? ⟨gb258, 4, none⟩ = some (.int .i64 ((rd_T36 l0 x14_1).f4)) := (blk_cell BK258.out 4).trans rfl
                        have hfz41_0 := blk_frozen BK258.out 0
                        have hfz41_1 := blk_frozen BK258.out 1
                        have hfz41_2 := blk_frozen BK258.out 2
                        have hfz41_3 := blk_frozen BK258.out 3
                        have hfz41_4 := blk_frozen BK258.out 4
                        try go_wp2
                        go_ret2
                        exact ⟨by first | rfl | (simp [errW_none, errW_some] <;> rfl) | (simp [*, errW_none, errW_some] <;> rfl), by repeat (first | (with_reducible first | exact HB.out | apply below_alloc | apply pw_below_drewN | apply below_drew1 | refine below_set ?_ GE258.out | refine below_set ?_ GE275.out) | exact HB.out)⟩
                      · rw [if_neg c27] at H
                        have c27b0 : (!(t269 == ((rd_T36 l0 x14_1).f0)) || (!(t270 == ((rd_T36 l0 x14_1).f1)) || (!(t271 == ((rd_T36 l0 x14_1).f2)) || (!(t272 == ((rd_T36 l0 x14_1).f3)) || (!(t273 == ((rd_T36 l0 x14_1).f4))))))) = false := by simpa using c27
                        clear c27
                        by_cases c42 : x4_1.size + x7_2.size ≤ 9223372036854775807
                        · rw [if_pos c42] at H
                          have c42b0 := eq_true c42
                          have c42b1 : decide (x4_1.size + x7_2.size ≤ 9223372036854775807) = true := decide_eq_true c42
                          try have c42b2 : (9223372036854775807 < x4_1.size + x7_2.size) = False := eq_false (Nat.not_lt.2 c42)
                          by_cases c43 : (x4_1 ++ x7_2).size + 1 ≤ 9223372036854775807
                          · rw [if_pos c43] at H
                            have c43b0 := eq_true c43
                            have c43b1 : decide ((x4_1 ++ x7_2).size + 1 ≤ 9223372036854775807) = true := decide_eq_true c43
                            have c43n := c43
                            simp only [ByteArray.size_append, show ((⟨#[32]⟩ : ByteArray).size) = 1 from rfl] at c43n
                            have c43n0 := eq_true c43n
                            have c43n1 := decide_eq_true c43n
                            have c43n2 := eq_false (Nat.not_lt.2 c43n)
                            try have c43b2 : (9223372036854775807 < (x4_1 ++ x7_2).size + 1) = False := eq_false (Nat.not_lt.2 c43)
                            have H' := Aside0.mk H
                            clear H
                            try go_wp2
                            have n0_ := Aside0.mk (Kd.R_drew HO_26.out)
                            have n1_ := Aside0.mk (blk_drew BK258.out)
                            have n2_ := Aside0.mk (below_drew1 HB.out)
                            clear HO_26
                            clear BK258
                            clear HB
                            have HO_26 := n0_
                            have BK258 := n1_
                            have HB := n2_
                            clear n0_ n1_ n2_
                            refine start_ (n := 11) (S := fun w' => w'.cell? ⟨gb258, 0, none⟩ = some (.int .i64 ((rd_T36 l0 x14_1).f0)) ∧ w'.cell? ⟨gb258, 1, none⟩ = some (.int .i64 ((rd_T36 l0 x14_1).f1)) ∧ w'.cell? ⟨gb258, 2, none⟩ = some (.int .i64 ((rd_T36 l0 x14_1).f2)) ∧ w'.cell? ⟨gb258, 3, none⟩ = some (.int .i64 ((rd_T36 l0 x14_1).f3)) ∧ w'.cell? ⟨gb258, 4, none⟩ = some (.int .i64 ((rd_T36 l0 x14_1).f4))) (ds := []) #[false, false, false, false, false, false, false, false, false, false, false] (by kernel_rfl) rfl rfl ⟨(blk_cell BK258.out 0).trans rfl, (blk_cell BK258.out 1).trans rfl, (blk_cell BK258.out 2).trans rfl, (blk_cell BK258.out 3).trans rfl, (blk_cell BK258.out 4).trans rfl⟩ (fun hHeld => ?_); refine with_tabW fletchref21_Text.tab15 fletchref21_Text.bits15 (fun HT_ HW_ => ?_)
                            generalize wr.drew = w44 at HO_26 BK258 HB hHeld ⊢
                            refine pure_ (i := 0) (N := some 45) (v := ?_) (a' := ?_) #[true, false, false, false, false, false, false, false, false, false, false] rfl rfl (any_of HT_.out (by kernel_rfl)) (fun _ _ _ h => h) (Or.inl ⟨by rfl, ?_⟩) ?_ ?_
                            rotate_left
                            · intro w'
                              go_simp
                              with_reducible rfl
                            rotate_left
                            · simp only [Act.put, List.setIfInBounds_toArray, List.set_cons_zero, List.set_cons_succ, i64_w, i32_w]
                              rfl
                            refine take_ (i := 1) (N := some 46) (v := ?_) (a' := ?_) #[true, true, false, false, false, false, false, false, false, false, false] rfl rfl (take_ofW HT_.out HW_.out (by kernel_rfl)) (fun _ _ _ h => h) (Or.inl ⟨by rfl, ?_⟩) hHeld ?_ ?_
                            rotate_left
                            · rintro w' ⟨s0, s1, s2, s3, s4⟩
                              go_simp
                              with_reducible rfl
                            rotate_left
                            · simp only [Act.put, List.setIfInBounds_toArray, List.set_cons_zero, List.set_cons_succ, i64_w, i32_w]
                              rfl
                            refine take_ (i := 2) (N := some 47) (v := ?_) (a' := ?_) #[true, true, true, false, false, false, false, false, false, false, false] rfl rfl (take_ofW HT_.out HW_.out (by kernel_rfl)) (fun _ _ _ h => h) (Or.inl ⟨by rfl, ?_⟩) hHeld ?_ ?_
                            rotate_left
                            · rintro w' ⟨s0, s1, s2, s3, s4⟩
                              go_simp
                              with_reducible rfl
                            rotate_left
                            · simp only [Act.put, List.setIfInBounds_toArray, List.set_cons_zero, List.set_cons_succ, i64_w, i32_w]
                              rfl
                            refine join_ (σ := Value × Nat) 2 #[true, true, true, true, true, true, true, true, true, false, false] (fun s_ => [(48, s_.1), (49, .tuple #[.agg #[.int .i64 t269, .int .i64 t270, .int .i64 t271, .int .i64 t272, .int .i64 t273], .bool true]), (10, .pointer (some ⟨s_.2, 0, none⟩)), (44, .tuple #[.agg #[.int .i64 t269, .int .i64 t270, .int .i64 t271, .int .i64 t272, .int .i64 t273], .bool true]), (50, .agg #[.int .i64 t269, .int .i64 t270, .int .i64 t271, .int .i64 t272, .int .i64 t273]), (51, .bool true)]) (fun s_ w' => (w'.cell? ⟨gb258, 0, none⟩ = some (.int .i64 ((rd_T36 l0 x14_1).f0)) ∧ w'.cell? ⟨gb258, 1, none⟩ = some (.int .i64 ((rd_T36 l0 x14_1).f1)) ∧ w'.cell? ⟨gb258, 2, none⟩ = some (.int .i64 ((rd_T36 l0 x14_1).f2)) ∧ w'.cell? ⟨gb258, 3, none⟩ = some (.int .i64 ((rd_T36 l0 x14_1).f3)) ∧ w'.cell? ⟨gb258, 4, none⟩ = some (.int .i64 ((rd_T36 l0 x14_1).f4))) ∧ (Kd.R (Kd.int .i64) 3 w' w.heap.size (fun k_ => some k_ ≠ (.slice Ao14 t261.length co14 : Value).ownBlock) s_.1 t266) ∧ (Kd.R (Kd.int .i64) 3 w' w.heap.size (fun k_ => some k_ ≠ (s_.1 : Value).ownBlock) (.slice Ao14 t261.length co14) t261) ∧ (w'.heap[gb258]? = some (.cells #[.int .i64 ((rd_T36 l0 x14_1).f0), .int .i64 ((rd_T36 l0 x14_1).f1), .int .i64 ((rd_T36 l0 x14_1).f2), .int .i64 ((rd_T36 l0 x14_1).f3), .int .i64 ((rd_T36 l0 x14_1).f4)] 36 (0, 0))) ∧ (w'.heap[s_.2]? = some (.cells #[.int .i64 0, .int .i64 0, .int .i64 0, .int .i64 0, .int .i64 0] 36 (0, 0))) ∧ (w.heap.size ≤ s_.2) ∧ (w.heap.size ≤ s_.2) ∧ (gb258 ≠ s_.2) ∧ (s_.2 ≠ gb258) ∧ (Below w.heap.size w w')) ?_ ?_
                            rotate_left
                            · intro hCont
                              refine two_ (i := 3) (j := 8) (Ni := some 48) (Nj := some 10) #[true, true, true, true, false, false, false, false, false, false, false] #[true, true, true, false, false, false, false, false, true, false, false] rfl rfl rfl rfl (two_of HT_.out (by kernel_rfl)) (by decide) (by decide) (fun K hK => ?_) (fun K hK => ?_)
                              · skip
                                refine goes_ Tryd.func26 (by kernel_rfl) rfl #[.agg #[.int .i64 ((rd_T36 l0 x14_1).f0), .int .i64 ((rd_T36 l0 x14_1).f1), .int .i64 ((rd_T36 l0 x14_1).f2), .int .i64 ((rd_T36 l0 x14_1).f3), .int .i64 ((rd_T36 l0 x14_1).f4)]] (by rfl) rfl rfl (by (try simp only [List.map_toArray, List.map_cons, List.map_nil]); first | done | rfl | (simp only [List.length_drop, List.length_take]; rfl)) ?_
                                with_reducible refine (fletchref21_told.calls k2 ((rd_T36 l0 x14_1).f0) ((rd_T36 l0 x14_1).f1) ((rd_T36 l0 x14_1).f2) ((rd_T36 l0 x14_1).f3) ((rd_T36 l0 x14_1).f4) t266 _ A24.out).mono ?_
                                rintro e w45 ⟨v267, rfl, ho0, hb⟩
                                refine ⟨_, rfl, ?_⟩
                                have n0_ := Aside0.mk (Kd.R_elder' (by (with_reducible repeat (first | apply Kd.R_alloc | apply Kd.R_drewN | apply Kd.R_drew)); exact HO_26.out) (Kd.R_base ho0) hb)
                                have n1_ := Aside0.mk (Kd.R_lower (Kd.R_new' ho0 (Kd.R_lt (by (with_reducible repeat (first | apply Kd.R_alloc | apply Kd.R_drewN | apply Kd.R_drew)); exact HO_26.out))) (below_size (by repeat (first | (with_reducible first | exact HB.out | apply below_alloc | apply pw_below_drewN | apply below_drew1 | refine below_set ?_ GE258.out) | exact HB.out))))
                                have n2_ := Aside0.mk (blk_below (g := gb258) (o := .cells #[.int .i64 ((rd_T36 l0 x14_1).f0), .int .i64 ((rd_T36 l0 x14_1).f1), .int .i64 ((rd_T36 l0 x14_1).f2), .int .i64 ((rd_T36 l0 x14_1).f3), .int .i64 ((rd_T36 l0 x14_1).f4)] 36 (0, 0)) (by (with_reducible repeat (first | refine blk_drewN ?_ _ | refine blk_drew ?_ | refine blk_alloc ?_ _)); exact BK258.out) hb)
                                have n3_ := Aside0.mk (below_step (by repeat (first | (with_reducible first | exact HB.out | apply below_alloc | apply pw_below_drewN | apply below_drew1 | refine below_set ?_ GE258.out) | exact HB.out)) hb)
                                clear HO_26
                                clear BK258
                                clear HB
                                have HO_26 := n0_
                                have HO268 := n1_
                                have BK258 := n2_
                                have HB := n3_
                                clear n0_ n1_ n2_ n3_
                                (try clear hb)
                                (try clear hb2)
                                (try clear hk)
                                (try clear hi)
                                (try clear ho0)
                                obtain ⟨Ao46, co46, eo46⟩ := Kd.R_slice HO268.out
                                (first | subst eo46 | (injection eo46 with f1_ f2_ f3_; have f4_ := f1_.symm; have f5_ := f3_.symm; clear f1_ f2_ f3_; subst f4_; subst f5_))
                                refine hK.out _ _ ⟨(blk_cell BK258.out 0).trans rfl, (blk_cell BK258.out 1).trans rfl, (blk_cell BK258.out 2).trans rfl, (blk_cell BK258.out 3).trans rfl, (blk_cell BK258.out 4).trans rfl⟩ (fun hHeld => ?_)
                                clear hK K
                                refine norm_ (a' := ?_) ?_ ?_
                                rotate_left
                                · show Act.put _ (some 48) _ = _
                                  simp only [Act.put, List.setIfInBounds_toArray, List.set_cons_zero, List.set_cons_succ, i64_w, i32_w]
                                  rfl
                                refine two_ (i := 4) (j := 8) (Ni := some 49) (Nj := some 10) #[true, true, true, true, true, false, false, false, false, false, false] #[true, true, true, true, false, false, false, false, true, false, false] rfl rfl rfl rfl (two_of HT_.out (by kernel_rfl)) (by decide) (by decide) (fun K hK => ?_) (fun K hK => ?_)
                                · skip
                                  refine goes_ Tryd.func27 (by kernel_rfl) rfl #[.int .i64 ((rd_T36 l0 x14_1).f0), .slice Ao46 t266.length co46] (by rfl) rfl rfl (by (try simp only [List.map_toArray, List.map_cons, List.map_nil]); first | done | rfl | (simp only [List.length_drop, List.length_take]; rfl)) ?_
                                  with_reducible refine (fletchref21_made.calls k2 ((rd_T36 l0 x14_1).f0) _ _ t266 t269 t270 t271 t272 t273 true _ ?side1 ?side2 A25.out).mono ?_
                                  (case side1 => repeat (first | exact (Kd.R_reads' HO268.out).2.2 | (with_reducible refine Kd.C_alloc ?_ _) | (with_reducible refine Kd.C_drewN ?_ _) | (with_reducible refine Kd.C_drew ?_)))
                                  (case side2 => exact (Kd.R_reads' HO268.out).2.1)
                                  rintro e w47 ⟨rfl, hb⟩
                                  refine ⟨_, rfl, ?_⟩
                                  have n0_ := Aside0.mk (Kd.R_below (by (with_reducible repeat (first | apply Kd.R_alloc | apply Kd.R_drewN | apply Kd.R_drew)); exact HO_26.out) hb)
                                  have n1_ := Aside0.mk (Kd.R_below (by (with_reducible repeat (first | apply Kd.R_alloc | apply Kd.R_drewN | apply Kd.R_drew)); exact HO268.out) hb)
                                  have n2_ := Aside0.mk (blk_below (g := gb258) (o := .cells #[.int .i64 ((rd_T36 l0 x14_1).f0), .int .i64 ((rd_T36 l0 x14_1).f1), .int .i64 ((rd_T36 l0 x14_1).f2), .int .i64 ((rd_T36 l0 x14_1).f3), .int .i64 ((rd_T36 l0 x14_1).f4)] 36 (0, 0)) (by (with_reducible repeat (first | refine blk_drewN ?_ _ | refine blk_drew ?_ | refine blk_alloc ?_ _)); exact BK258.out) hb)
                                  have n3_ := Aside0.mk (below_step (by repeat (first | (with_reducible first | exact HB.out | apply below_alloc | apply pw_below_drewN | apply below_drew1 | refine below_set ?_ GE258.out) | exact HB.out)) hb)
                                  clear HO_26
                                  clear HO268
                                  clear BK258
                                  clear HB
                                  have HO_26 := n0_
                                  have HO268 := n1_
                                  have BK258 := n2_
                                  have HB := n3_
                                  clear n0_ n1_ n2_ n3_
                                  (try clear hb)
                                  (try clear hb2)
                                  (try clear hk)
                                  (try clear hi)
                                  refine hK.out _ _ ⟨(blk_cell BK258.out 0).trans rfl, (blk_cell BK258.out 1).trans rfl, (blk_cell BK258.out 2).trans rfl, (blk_cell BK258.out 3).trans rfl, (blk_cell BK258.out 4).trans rfl⟩ (fun hHeld => ?_)
                                  clear hK K
                                  refine norm_ (a' := ?_) ?_ ?_
                                  rotate_left
                                  · show Act.put _ (some 49) _ = _
                                    simp only [Act.put, List.setIfInBounds_toArray, List.set_cons_zero, List.set_cons_succ, i64_w, i32_w]
                                    rfl
                                  refine pure_ (i := 5) (N := some 44) (v := ?_) (a' := ?_) #[true, true, true, true, true, true, false, false, false, false, false] rfl rfl (any_of HT_.out (by kernel_rfl)) (fun _ _ _ h => h) (Or.inl ⟨by rfl, ?_⟩) ?_ ?_
                                  rotate_left
                                  · intro w'
                                    go_simp
                                    with_reducible rfl
                                  rotate_left
                                  · simp only [Act.put, List.setIfInBounds_toArray, List.set_cons_zero, List.set_cons_succ, i64_w, i32_w]
                                    rfl
                                  refine pure_ (i := 6) (N := some 50) (v := ?_) (a' := ?_) #[true, true, true, true, true, true, true, false, false, false, false] rfl rfl (any_of HT_.out (by kernel_rfl)) (fun _ _ _ h => h) (Or.inl ⟨by rfl, ?_⟩) ?_ ?_
                                  rotate_left
                                  · intro w'
                                    go_simp
                                    with_reducible rfl
                                  rotate_left
                                  · simp only [Act.put, List.setIfInBounds_toArray, List.set_cons_zero, List.set_cons_succ, i64_w, i32_w]
                                    rfl
                                  refine pure_ (i := 7) (N := some 51) (v := ?_) (a' := ?_) #[true, true, true, true, true, true, true, true, false, false, false] rfl rfl (any_of HT_.out (by kernel_rfl)) (fun _ _ _ h => h) (Or.inl ⟨by rfl, ?_⟩) ?_ ?_
                                  rotate_left
                                  · intro w'
                                    go_simp
                                    with_reducible rfl
                                  rotate_left
                                  · simp only [Act.put, List.setIfInBounds_toArray, List.set_cons_zero, List.set_cons_succ, i64_w, i32_w]
                                    rfl
                                  refine one_ (i := 8) (N := some 10) #[true, true, true, true, true, true, true, true, true, false, false] rfl rfl (one_of HT_.out (by kernel_rfl)) (by decide) (fun K hK => ?_)
                                  refine box_step ?hg (N := 10) ?hd (cs := #[.int .i64 0, .int .i64 0, .int .i64 0, .int .i64 0, .int .i64 0]) (t := 36) ?hr ?_; (case hd => rfl); (case hg => rfl); (case hr => first | (go_simp; done) | (go_simp; rfl))
                                  intro gb275 hg w48 hbox hb
                                  have n0_ := Aside0.mk (Kd.R_below (by (with_reducible repeat (first | apply Kd.R_alloc | apply Kd.R_drewN | apply Kd.R_drew)); exact HO_26.out) hb)
                                  have n1_ := Aside0.mk (Kd.R_below (by (with_reducible repeat (first | apply Kd.R_alloc | apply Kd.R_drewN | apply Kd.R_drew)); exact HO268.out) hb)
                                  have n2_ := Aside0.mk (blk_below (g := gb258) (o := .cells #[.int .i64 ((rd_T36 l0 x14_1).f0), .int .i64 ((rd_T36 l0 x14_1).f1), .int .i64 ((rd_T36 l0 x14_1).f2), .int .i64 ((rd_T36 l0 x14_1).f3), .int .i64 ((rd_T36 l0 x14_1).f4)] 36 (0, 0)) (by (with_reducible repeat (first | refine blk_drewN ?_ _ | refine blk_drew ?_ | refine blk_alloc ?_ _)); exact BK258.out) hb)
                                  have n3_ := Aside0.mk (below_step (by repeat (first | (with_reducible first | exact HB.out | apply below_alloc | apply pw_below_drewN | apply below_drew1 | refine below_set ?_ GE258.out) | exact HB.out)) hb)
                                  have n4_ := Aside0.mk (hbox)
                                  have n5_ := Aside0.mk ((by rw [hg]; exact (below_size (by repeat (first | (with_reducible first | exact HB.out | apply below_alloc | apply pw_below_drewN | apply below_drew1 | refine below_set ?_ GE258.out) | exact HB.out))) : w.heap.size ≤ gb275))
                                  have n6_ := Aside0.mk ((by rw [hg]; exact (below_size (by repeat (first | (with_reducible first | exact HB.out | apply below_alloc | apply pw_below_drewN | apply below_drew1 | refine below_set ?_ GE258.out) | exact HB.out))) : w.heap.size ≤ gb275))
                                  have n7_ := Aside0.mk ((by rw [hg]; exact Nat.ne_of_lt (blk_lt (g := gb258) (o := .cells #[.int .i64 ((rd_T36 l0 x14_1).f0), .int .i64 ((rd_T36 l0 x14_1).f1), .int .i64 ((rd_T36 l0 x14_1).f2), .int .i64 ((rd_T36 l0 x14_1).f3), .int .i64 ((rd_T36 l0 x14_1).f4)] 36 (0, 0)) (by (with_reducible repeat (first | refine blk_drewN ?_ _ | refine blk_drew ?_ | refine blk_alloc ?_ _)); exact BK258.out)) : gb258 ≠ gb275))
                                  have n8_ := Aside0.mk ((by rw [hg]; exact Nat.ne_of_gt (blk_lt (g := gb258) (o := .cells #[.int .i64 ((rd_T36 l0 x14_1).f0), .int .i64 ((rd_T36 l0 x14_1).f1), .int .i64 ((rd_T36 l0 x14_1).f2), .int .i64 ((rd_T36 l0 x14_1).f3), .int .i64 ((rd_T36 l0 x14_1).f4)] 36 (0, 0)) (by (with_reducible repeat (first | refine blk_drewN ?_ _ | refine blk_drew ?_ | refine blk_alloc ?_ _)); exact BK258.out)) : gb275 ≠ gb258))
                                  clear HO_26
                                  clear HO268
                                  clear BK258
                                  clear HB
                                  have HO_26 := n0_
                                  have HO268 := n1_
                                  have BK258 := n2_
                                  have HB := n3_
                                  have BK275 := n4_
                                  have GW275 := n5_
                                  have GE275 := n6_
                                  have NB258_275 := n7_
                                  have NB275_258 := n8_
                                  clear n0_ n1_ n2_ n3_ n4_ n5_ n6_ n7_ n8_
                                  clear hb hbox hg
                                  refine hK.out _ _ ⟨(blk_cell BK258.out 0).trans rfl, (blk_cell BK258.out 1).trans rfl, (blk_cell BK258.out 2).trans rfl, (blk_cell BK258.out 3).trans rfl, (blk_cell BK258.out 4).trans rfl⟩ (fun hHeld => ?_)
                                  clear hK K
                                  refine norm_ (a' := ?_) ?_ ?_
                                  rotate_left
                                  · show Act.put _ (some 10) _ = _
                                    simp only [Act.put, List.setIfInBounds_toArray, List.set_cons_zero, List.set_cons_succ, i64_w, i32_w]
                                    rfl
                                  exact norm_ (by simp only [putAll, Act.put, List.setIfInBounds_toArray, List.set_cons_zero, List.set_cons_succ]) (hCont (.slice Ao46 t266.length co46, gb275) _ ⟨hHeld, (by (with_reducible repeat (first | apply Kd.R_alloc | apply Kd.R_drewN | apply Kd.R_drew)); exact Kd.R_mono HO268.out (fun _ hk => hk.2)), (by (with_reducible repeat (first | apply Kd.R_alloc | apply Kd.R_drewN | apply Kd.R_drew)); exact Kd.R_mono HO_26.out (fun _ hk => hk.2)), (by (with_reducible repeat (first | refine blk_drewN ?_ _ | refine blk_drew ?_ | refine blk_alloc ?_ _)); exact BK258.out), (by (with_reducible repeat (first | refine blk_drewN ?_ _ | refine blk_drew ?_ | refine blk_alloc ?_ _)); exact BK275.out), GW275.out, GE275.out, NB258_275.out, NB275_258.out, (by repeat (first | (with_reducible first | exact HB.out | apply below_alloc | apply pw_below_drewN | apply below_drew1 | refine below_set ?_ GE258.out | refine below_set ?_ GE275.out) | exact HB.out))⟩)
                                · skip
                                  refine box_step ?hg (N := 10) ?hd (cs := #[.int .i64 0, .int .i64 0, .int .i64 0, .int .i64 0, .int .i64 0]) (t := 36) ?hr ?_; (case hd => rfl); (case hg => rfl); (case hr => first | (go_simp; done) | (go_simp; rfl))
                                  intro gb275 hg w46 hbox hb
                                  have n0_ := Aside0.mk (Kd.R_below (by (with_reducible repeat (first | apply Kd.R_alloc | apply Kd.R_drewN | apply Kd.R_drew)); exact HO_26.out) hb)
                                  have n1_ := Aside0.mk (Kd.R_below (by (with_reducible repeat (first | apply Kd.R_alloc | apply Kd.R_drewN | apply Kd.R_drew)); exact HO268.out) hb)
                                  have n2_ := Aside0.mk (blk_below (g := gb258) (o := .cells #[.int .i64 ((rd_T36 l0 x14_1).f0), .int .i64 ((rd_T36 l0 x14_1).f1), .int .i64 ((rd_T36 l0 x14_1).f2), .int .i64 ((rd_T36 l0 x14_1).f3), .int .i64 ((rd_T36 l0 x14_1).f4)] 36 (0, 0)) (by (with_reducible repeat (first | refine blk_drewN ?_ _ | refine blk_drew ?_ | refine blk_alloc ?_ _)); exact BK258.out) hb)
                                  have n3_ := Aside0.mk (below_step (by repeat (first | (with_reducible first | exact HB.out | apply below_alloc | apply pw_below_drewN | apply below_drew1 | refine below_set ?_ GE258.out) | exact HB.out)) hb)
                                  have n4_ := Aside0.mk (hbox)
                                  have n5_ := Aside0.mk ((by rw [hg]; exact (below_size (by repeat (first | (with_reducible first | exact HB.out | apply below_alloc | apply pw_below_drewN | apply below_drew1 | refine below_set ?_ GE258.out) | exact HB.out))) : w.heap.size ≤ gb275))
                                  have n6_ := Aside0.mk ((by rw [hg]; exact (below_size (by repeat (first | (with_reducible first | exact HB.out | apply below_alloc | apply pw_below_drewN | apply below_drew1 | refine below_set ?_ GE258.out) | exact HB.out))) : w.heap.size ≤ gb275))
                                  have n7_ := Aside0.mk ((by rw [hg]; exact Nat.ne_of_lt (blk_lt (g := gb258) (o := .cells #[.int .i64 ((rd_T36 l0 x14_1).f0), .int .i64 ((rd_T36 l0 x14_1).f1), .int .i64 ((rd_T36 l0 x14_1).f2), .int .i64 ((rd_T36 l0 x14_1).f3), .int .i64 ((rd_T36 l0 x14_1).f4)] 36 (0, 0)) (by (with_reducible repeat (first | refine blk_drewN ?_ _ | refine blk_drew ?_ | refine blk_alloc ?_ _)); exact BK258.out)) : gb258 ≠ gb275))
                                  have n8_ := Aside0.mk ((by rw [hg]; exact Nat.ne_of_gt (blk_lt (g := gb258) (o := .cells #[.int .i64 ((rd_T36 l0 x14_1).f0), .int .i64 ((rd_T36 l0 x14_1).f1), .int .i64 ((rd_T36 l0 x14_1).f2), .int .i64 ((rd_T36 l0 x14_1).f3), .int .i64 ((rd_T36 l0 x14_1).f4)] 36 (0, 0)) (by (with_reducible repeat (first | refine blk_drewN ?_ _ | refine blk_drew ?_ | refine blk_alloc ?_ _)); exact BK258.out)) : gb275 ≠ gb258))
                                  clear HO_26
                                  clear HO268
                                  clear BK258
                                  clear HB
                                  have HO_26 := n0_
                                  have HO268 := n1_
                                  have BK258 := n2_
                                  have HB := n3_
                                  have BK275 := n4_
                                  have GW275 := n5_
                                  have GE275 := n6_
                                  have NB258_275 := n7_
                                  have NB275_258 := n8_
                                  clear n0_ n1_ n2_ n3_ n4_ n5_ n6_ n7_ n8_
                                  clear hb hbox hg
                                  obtain ⟨Ao47, co47, eo47⟩ := Kd.R_slice HO268.out
                                  (first | subst eo47 | (injection eo47 with f1_ f2_ f3_; have f4_ := f1_.symm; have f5_ := f3_.symm; clear f1_ f2_ f3_; subst f4_; subst f5_))
                                  refine hK.out _ _ ⟨(blk_cell BK258.out 0).trans rfl, (blk_cell BK258.out 1).trans rfl, (blk_cell BK258.out 2).trans rfl, (blk_cell BK258.out 3).trans rfl, (blk_cell BK258.out 4).trans rfl⟩ (fun hHeld => ?_)
                                  clear hK K
                                  refine norm_ (a' := ?_) ?_ ?_
                                  rotate_left
                                  · show Act.put _ (some 10) _ = _
                                    simp only [Act.put, List.setIfInBounds_toArray, List.set_cons_zero, List.set_cons_succ, i64_w, i32_w]
                                    rfl
                                  refine one_ (i := 4) (N := some 49) #[true, true, true, true, true, false, false, false, true, false, false] rfl rfl (one_of HT_.out (by kernel_rfl)) (by decide) (fun K hK => ?_)
                                  refine goes_ Tryd.func27 (by kernel_rfl) rfl #[.int .i64 ((rd_T36 l0 x14_1).f0), .slice Ao47 t266.length co47] (by rfl) rfl rfl (by (try simp only [List.map_toArray, List.map_cons, List.map_nil]); first | done | rfl | (simp only [List.length_drop, List.length_take]; rfl)) ?_
                                  with_reducible refine (fletchref21_made.calls k2 ((rd_T36 l0 x14_1).f0) _ _ t266 t269 t270 t271 t272 t273 true _ ?side1 ?side2 A25.out).mono ?_
                                  (case side1 => repeat (first | exact (Kd.R_reads' HO268.out).2.2 | (with_reducible refine Kd.C_alloc ?_ _) | (with_reducible refine Kd.C_drewN ?_ _) | (with_reducible refine Kd.C_drew ?_)))
                                  (case side2 => exact (Kd.R_reads' HO268.out).2.1)
                                  rintro e w48 ⟨rfl, hb⟩
                                  refine ⟨_, rfl, ?_⟩
                                  have n0_ := Aside0.mk (Kd.R_below (by (with_reducible repeat (first | apply Kd.R_alloc | apply Kd.R_drewN | apply Kd.R_drew)); exact HO_26.out) hb)
                                  have n1_ := Aside0.mk (Kd.R_below (by (with_reducible repeat (first | apply Kd.R_alloc | apply Kd.R_drewN | apply Kd.R_drew)); exact HO268.out) hb)
                                  have n2_ := Aside0.mk (blk_below (g := gb258) (o := .cells #[.int .i64 ((rd_T36 l0 x14_1).f0), .int .i64 ((rd_T36 l0 x14_1).f1), .int .i64 ((rd_T36 l0 x14_1).f2), .int .i64 ((rd_T36 l0 x14_1).f3), .int .i64 ((rd_T36 l0 x14_1).f4)] 36 (0, 0)) (by (with_reducible repeat (first | refine blk_drewN ?_ _ | refine blk_drew ?_ | refine blk_alloc ?_ _)); exact BK258.out) hb)
                                  have n3_ := Aside0.mk (blk_below (g := gb275) (o := .cells #[.int .i64 0, .int .i64 0, .int .i64 0, .int .i64 0, .int .i64 0] 36 (0, 0)) (by (with_reducible repeat (first | refine blk_drewN ?_ _ | refine blk_drew ?_ | refine blk_alloc ?_ _)); exact BK275.out) hb)
                                  have n4_ := Aside0.mk (below_step (by repeat (first | (with_reducible first | exact HB.out | apply below_alloc | apply pw_below_drewN | apply below_drew1 | refine below_set ?_ GE258.out | refine below_set ?_ GE275.out) | exact HB.out)) hb)
                                  clear HO_26
                                  clear HO268
                                  clear BK258
                                  clear BK275
                                  clear HB
                                  have HO_26 := n0_
                                  have HO268 := n1_
                                  have BK258 := n2_
                                  have BK275 := n3_
                                  have HB := n4_
                                  clear n0_ n1_ n2_ n3_ n4_
                                  (try clear hb)
                                  (try clear hb2)
                                  (try clear hk)
                                  (try clear hi)
                                  refine hK.out _ _ ⟨(blk_cell BK258.out 0).trans rfl, (blk_cell BK258.out 1).trans rfl, (blk_cell BK258.out 2).trans rfl, (blk_cell BK258.out 3).trans rfl, (blk_cell BK258.out 4).trans rfl⟩ (fun hHeld => ?_)
                                  clear hK K
                                  refine norm_ (a' := ?_) ?_ ?_
                                  rotate_left
                                  · show Act.put _ (some 49) _ = _
                                    simp only [Act.put, List.setIfInBounds_toArray, List.set_cons_zero, List.set_cons_succ, i64_w, i32_w]
                                    rfl
                                  refine pure_ (i := 5) (N := some 44) (v := ?_) (a' := ?_) #[true, true, true, true, true, true, false, false, true, false, false] rfl rfl (any_of HT_.out (by kernel_rfl)) (fun _ _ _ h => h) (Or.inl ⟨by rfl, ?_⟩) ?_ ?_
                                  rotate_left
                                  · intro w'
                                    go_simp
                                    with_reducible rfl
                                  rotate_left
                                  · simp only [Act.put, List.setIfInBounds_toArray, List.set_cons_zero, List.set_cons_succ, i64_w, i32_w]
                                    rfl
                                  refine pure_ (i := 6) (N := some 50) (v := ?_) (a' := ?_) #[true, true, true, true, true, true, true, false, true, false, false] rfl rfl (any_of HT_.out (by kernel_rfl)) (fun _ _ _ h => h) (Or.inl ⟨by rfl, ?_⟩) ?_ ?_
                                  rotate_left
                                  · intro w'
                                    go_simp
                                    with_reducible rfl
                                  rotate_left
                                  · simp only [Act.put, List.setIfInBounds_toArray, List.set_cons_zero, List.set_cons_succ, i64_w, i32_w]
                                    rfl
                                  refine pure_ (i := 7) (N := some 51) (v := ?_) (a' := ?_) #[true, true, true, true, true, true, true, true, true, false, false] rfl rfl (any_of HT_.out (by kernel_rfl)) (fun _ _ _ h => h) (Or.inl ⟨by rfl, ?_⟩) ?_ ?_
                                  rotate_left
                                  · intro w'
                                    go_simp
                                    with_reducible rfl
                                  rotate_left
                                  · simp only [Act.put, List.setIfInBounds_toArray, List.set_cons_zero, List.set_cons_succ, i64_w, i32_w]
                                    rfl
                                  exact norm_ (by simp only [putAll, Act.put, List.setIfInBounds_toArray, List.set_cons_zero, List.set_cons_succ]) (hCont (.slice Ao47 t266.length co47, gb275) _ ⟨hHeld, (by (with_reducible repeat (first | apply Kd.R_alloc | apply Kd.R_drewN | apply Kd.R_drew)); exact Kd.R_mono HO268.out (fun _ hk => hk.2)), (by (with_reducible repeat (first | apply Kd.R_alloc | apply Kd.R_drewN | apply Kd.R_drew)); exact Kd.R_mono HO_26.out (fun _ hk => hk.2)), (by (with_reducible repeat (first | refine blk_drewN ?_ _ | refine blk_drew ?_ | refine blk_alloc ?_ _)); exact BK258.out), (by (with_reducible repeat (first | refine blk_drewN ?_ _ | refine blk_drew ?_ | refine blk_alloc ?_ _)); exact BK275.out), GW275.out, GE275.out, NB258_275.out, NB275_258.out, (by repeat (first | (with_reducible first | exact HB.out | apply below_alloc | apply pw_below_drewN | apply below_drew1 | refine below_set ?_ GE258.out | refine below_set ?_ GE275.out) | exact HB.out))⟩)
                              · skip
                                refine box_step ?hg (N := 10) ?hd (cs := #[.int .i64 0, .int .i64 0, .int .i64 0, .int .i64 0, .int .i64 0]) (t := 36) ?hr ?_; (case hd => rfl); (case hg => rfl); (case hr => first | (go_simp; done) | (go_simp; rfl))
                                intro gb275 hg w45 hbox hb
                                have n0_ := Aside0.mk (Kd.R_below (by (with_reducible repeat (first | apply Kd.R_alloc | apply Kd.R_drewN | apply Kd.R_drew)); exact HO_26.out) hb)
                                have n1_ := Aside0.mk (blk_below (g := gb258) (o := .cells #[.int .i64 ((rd_T36 l0 x14_1).f0), .int .i64 ((rd_T36 l0 x14_1).f1), .int .i64 ((rd_T36 l0 x14_1).f2), .int .i64 ((rd_T36 l0 x14_1).f3), .int .i64 ((rd_T36 l0 x14_1).f4)] 36 (0, 0)) (by (with_reducible repeat (first | refine blk_drewN ?_ _ | refine blk_drew ?_ | refine blk_alloc ?_ _)); exact BK258.out) hb)
                                have n2_ := Aside0.mk (below_step (by repeat (first | (with_reducible first | exact HB.out | apply below_alloc | apply pw_below_drewN | apply below_drew1 | refine below_set ?_ GE258.out) | exact HB.out)) hb)
                                have n3_ := Aside0.mk (hbox)
                                have n4_ := Aside0.mk ((by rw [hg]; exact (below_size (by repeat (first | (with_reducible first | exact HB.out | apply below_alloc | apply pw_below_drewN | apply below_drew1 | refine below_set ?_ GE258.out) | exact HB.out))) : w.heap.size ≤ gb275))
                                have n5_ := Aside0.mk ((by rw [hg]; exact (below_size (by repeat (first | (with_reducible first | exact HB.out | apply below_alloc | apply pw_below_drewN | apply below_drew1 | refine below_set ?_ GE258.out) | exact HB.out))) : w.heap.size ≤ gb275))
                                have n6_ := Aside0.mk ((by rw [hg]; exact Nat.ne_of_lt (blk_lt (g := gb258) (o := .cells #[.int .i64 ((rd_T36 l0 x14_1).f0), .int .i64 ((rd_T36 l0 x14_1).f1), .int .i64 ((rd_T36 l0 x14_1).f2), .int .i64 ((rd_T36 l0 x14_1).f3), .int .i64 ((rd_T36 l0 x14_1).f4)] 36 (0, 0)) (by (with_reducible repeat (first | refine blk_drewN ?_ _ | refine blk_drew ?_ | refine blk_alloc ?_ _)); exact BK258.out)) : gb258 ≠ gb275))
                                have n7_ := Aside0.mk ((by rw [hg]; exact Nat.ne_of_gt (blk_lt (g := gb258) (o := .cells #[.int .i64 ((rd_T36 l0 x14_1).f0), .int .i64 ((rd_T36 l0 x14_1).f1), .int .i64 ((rd_T36 l0 x14_1).f2), .int .i64 ((rd_T36 l0 x14_1).f3), .int .i64 ((rd_T36 l0 x14_1).f4)] 36 (0, 0)) (by (with_reducible repeat (first | refine blk_drewN ?_ _ | refine blk_drew ?_ | refine blk_alloc ?_ _)); exact BK258.out)) : gb275 ≠ gb258))
                                clear HO_26
                                clear BK258
                                clear HB
                                have HO_26 := n0_
                                have BK258 := n1_
                                have HB := n2_
                                have BK275 := n3_
                                have GW275 := n4_
                                have GE275 := n5_
                                have NB258_275 := n6_
                                have NB275_258 := n7_
                                clear n0_ n1_ n2_ n3_ n4_ n5_ n6_ n7_
                                clear hb hbox hg
                                refine hK.out _ _ ⟨(blk_cell BK258.out 0).trans rfl, (blk_cell BK258.out 1).trans rfl, (blk_cell BK258.out 2).trans rfl, (blk_cell BK258.out 3).trans rfl, (blk_cell BK258.out 4).trans rfl⟩ (fun hHeld => ?_)
                                clear hK K
                                refine norm_ (a' := ?_) ?_ ?_
                                rotate_left
                                · show Act.put _ (some 10) _ = _
                                  simp only [Act.put, List.setIfInBounds_toArray, List.set_cons_zero, List.set_cons_succ, i64_w, i32_w]
                                  rfl
                                refine one_ (i := 3) (N := some 48) #[true, true, true, true, false, false, false, false, true, false, false] rfl rfl (one_of HT_.out (by kernel_rfl)) (by decide) (fun K hK => ?_)
                                refine goes_ Tryd.func26 (by kernel_rfl) rfl #[.agg #[.int .i64 ((rd_T36 l0 x14_1).f0), .int .i64 ((rd_T36 l0 x14_1).f1), .int .i64 ((rd_T36 l0 x14_1).f2), .int .i64 ((rd_T36 l0 x14_1).f3), .int .i64 ((rd_T36 l0 x14_1).f4)]] (by rfl) rfl rfl (by (try simp only [List.map_toArray, List.map_cons, List.map_nil]); first | done | rfl | (simp only [List.length_drop, List.length_take]; rfl)) ?_
                                with_reducible refine (fletchref21_told.calls k2 ((rd_T36 l0 x14_1).f0) ((rd_T36 l0 x14_1).f1) ((rd_T36 l0 x14_1).f2) ((rd_T36 l0 x14_1).f3) ((rd_T36 l0 x14_1).f4) t266 _ A24.out).mono ?_
                                rintro e w46 ⟨v267, rfl, ho0, hb⟩
                                refine ⟨_, rfl, ?_⟩
                                have n0_ := Aside0.mk (Kd.R_elder' (by (with_reducible repeat (first | apply Kd.R_alloc | apply Kd.R_drewN | apply Kd.R_drew)); exact HO_26.out) (Kd.R_base ho0) hb)
                                have n1_ := Aside0.mk (Kd.R_lower (Kd.R_new' ho0 (Kd.R_lt (by (with_reducible repeat (first | apply Kd.R_alloc | apply Kd.R_drewN | apply Kd.R_drew)); exact HO_26.out))) (below_size (by repeat (first | (with_reducible first | exact HB.out | apply below_alloc | apply pw_below_drewN | apply below_drew1 | refine below_set ?_ GE258.out | refine below_set ?_ GE275.out) | exact HB.out))))
                                have n2_ := Aside0.mk (blk_below (g := gb258) (o := .cells #[.int .i64 ((rd_T36 l0 x14_1).f0), .int .i64 ((rd_T36 l0 x14_1).f1), .int .i64 ((rd_T36 l0 x14_1).f2), .int .i64 ((rd_T36 l0 x14_1).f3), .int .i64 ((rd_T36 l0 x14_1).f4)] 36 (0, 0)) (by (with_reducible repeat (first | refine blk_drewN ?_ _ | refine blk_drew ?_ | refine blk_alloc ?_ _)); exact BK258.out) hb)
                                have n3_ := Aside0.mk (blk_below (g := gb275) (o := .cells #[.int .i64 0, .int .i64 0, .int .i64 0, .int .i64 0, .int .i64 0] 36 (0, 0)) (by (with_reducible repeat (first | refine blk_drewN ?_ _ | refine blk_drew ?_ | refine blk_alloc ?_ _)); exact BK275.out) hb)
                                have n4_ := Aside0.mk (below_step (by repeat (first | (with_reducible first | exact HB.out | apply below_alloc | apply pw_below_drewN | apply below_drew1 | refine below_set ?_ GE258.out | refine below_set ?_ GE275.out) | exact HB.out)) hb)
                                clear HO_26
                                clear BK258
                                clear BK275
                                clear HB
                                have HO_26 := n0_
                                have HO268 := n1_
                                have BK258 := n2_
                                have BK275 := n3_
                                have HB := n4_
                                clear n0_ n1_ n2_ n3_ n4_
                                (try clear hb)
                                (try clear hb2)
                                (try clear hk)
                                (try clear hi)
                                (try clear ho0)
                                obtain ⟨Ao47, co47, eo47⟩ := Kd.R_slice HO268.out
                                (first | subst eo47 | (injection eo47 with f1_ f2_ f3_; have f4_ := f1_.symm; have f5_ := f3_.symm; clear f1_ f2_ f3_; subst f4_; subst f5_))
                                refine hK.out _ _ ⟨(blk_cell BK258.out 0).trans rfl, (blk_cell BK258.out 1).trans rfl, (blk_cell BK258.out 2).trans rfl, (blk_cell BK258.out 3).trans rfl, (blk_cell BK258.out 4).trans rfl⟩ (fun hHeld => ?_)
                                clear hK K
                                refine norm_ (a' := ?_) ?_ ?_
                                rotate_left
                                · show Act.put _ (some 48) _ = _
                                  simp only [Act.put, List.setIfInBounds_toArray, List.set_cons_zero, List.set_cons_succ, i64_w, i32_w]
                                  rfl
                                refine one_ (i := 4) (N := some 49) #[true, true, true, true, true, false, false, false, true, false, false] rfl rfl (one_of HT_.out (by kernel_rfl)) (by decide) (fun K hK => ?_)
                                refine goes_ Tryd.func27 (by kernel_rfl) rfl #[.int .i64 ((rd_T36 l0 x14_1).f0), .slice Ao47 t266.length co47] (by rfl) rfl rfl (by (try simp only [List.map_toArray, List.map_cons, List.map_nil]); first | done | rfl | (simp only [List.length_drop, List.length_take]; rfl)) ?_
                                with_reducible refine (fletchref21_made.calls k2 ((rd_T36 l0 x14_1).f0) _ _ t266 t269 t270 t271 t272 t273 true _ ?side1 ?side2 A25.out).mono ?_
                                (case side1 => repeat (first | exact (Kd.R_reads' HO268.out).2.2 | (with_reducible refine Kd.C_alloc ?_ _) | (with_reducible refine Kd.C_drewN ?_ _) | (with_reducible refine Kd.C_drew ?_)))
                                (case side2 => exact (Kd.R_reads' HO268.out).2.1)
                                rintro e w48 ⟨rfl, hb⟩
                                refine ⟨_, rfl, ?_⟩
                                have n0_ := Aside0.mk (Kd.R_below (by (with_reducible repeat (first | apply Kd.R_alloc | apply Kd.R_drewN | apply Kd.R_drew)); exact HO_26.out) hb)
                                have n1_ := Aside0.mk (Kd.R_below (by (with_reducible repeat (first | apply Kd.R_alloc | apply Kd.R_drewN | apply Kd.R_drew)); exact HO268.out) hb)
                                have n2_ := Aside0.mk (blk_below (g := gb258) (o := .cells #[.int .i64 ((rd_T36 l0 x14_1).f0), .int .i64 ((rd_T36 l0 x14_1).f1), .int .i64 ((rd_T36 l0 x14_1).f2), .int .i64 ((rd_T36 l0 x14_1).f3), .int .i64 ((rd_T36 l0 x14_1).f4)] 36 (0, 0)) (by (with_reducible repeat (first | refine blk_drewN ?_ _ | refine blk_drew ?_ | refine blk_alloc ?_ _)); exact BK258.out) hb)
                                have n3_ := Aside0.mk (blk_below (g := gb275) (o := .cells #[.int .i64 0, .int .i64 0, .int .i64 0, .int .i64 0, .int .i64 0] 36 (0, 0)) (by (with_reducible repeat (first | refine blk_drewN ?_ _ | refine blk_drew ?_ | refine blk_alloc ?_ _)); exact BK275.out) hb)
                                have n4_ := Aside0.mk (below_step (by repeat (first | (with_reducible first | exact HB.out | apply below_alloc | apply pw_below_drewN | apply below_drew1 | refine below_set ?_ GE258.out | refine below_set ?_ GE275.out) | exact HB.out)) hb)
                                clear HO_26
                                clear HO268
                                clear BK258
                                clear BK275
                                clear HB
                                have HO_26 := n0_
                                have HO268 := n1_
                                have BK258 := n2_
                                have BK275 := n3_
                                have HB := n4_
                                clear n0_ n1_ n2_ n3_ n4_
                                (try clear hb)
                                (try clear hb2)
                                (try clear hk)
                                (try clear hi)
                                refine hK.out _ _ ⟨(blk_cell BK258.out 0).trans rfl, (blk_cell BK258.out 1).trans rfl, (blk_cell BK258.out 2).trans rfl, (blk_cell BK258.out 3).trans rfl, (blk_cell BK258.out 4).trans rfl⟩ (fun hHeld => ?_)
                                clear hK K
                                refine norm_ (a' := ?_) ?_ ?_
                                rotate_left
                                · show Act.put _ (some 49) _ = _
                                  simp only [Act.put, List.setIfInBounds_toArray, List.set_cons_zero, List.set_cons_succ, i64_w, i32_w]
                                  rfl
                                refine pure_ (i := 5) (N := some 44) (v := ?_) (a' := ?_) #[true, true, true, true, true, true, false, false, true, false, false] rfl rfl (any_of HT_.out (by kernel_rfl)) (fun _ _ _ h => h) (Or.inl ⟨by rfl, ?_⟩) ?_ ?_
                                rotate_left
                                · intro w'
                                  go_simp
                                  with_reducible rfl
                                rotate_left
                                · simp only [Act.put, List.setIfInBounds_toArray, List.set_cons_zero, List.set_cons_succ, i64_w, i32_w]
                                  rfl
                                refine pure_ (i := 6) (N := some 50) (v := ?_) (a' := ?_) #[true, true, true, true, true, true, true, false, true, false, false] rfl rfl (any_of HT_.out (by kernel_rfl)) (fun _ _ _ h => h) (Or.inl ⟨by rfl, ?_⟩) ?_ ?_
                                rotate_left
                                · intro w'
                                  go_simp
                                  with_reducible rfl
                                rotate_left
                                · simp only [Act.put, List.setIfInBounds_toArray, List.set_cons_zero, List.set_cons_succ, i64_w, i32_w]
                                  rfl
                                refine pure_ (i := 7) (N := some 51) (v := ?_) (a' := ?_) #[true, true, true, true, true, true, true, true, true, false, false] rfl rfl (any_of HT_.out (by kernel_rfl)) (fun _ _ _ h => h) (Or.inl ⟨by rfl, ?_⟩) ?_ ?_
                                rotate_left
                                · intro w'
                                  go_simp
                                  with_reducible rfl
                                rotate_left
                                · simp only [Act.put, List.setIfInBounds_toArray, List.set_cons_zero, List.set_cons_succ, i64_w, i32_w]
                                  rfl
                                exact norm_ (by simp only [putAll, Act.put, List.setIfInBounds_toArray, List.set_cons_zero, List.set_cons_succ]) (hCont (.slice Ao47 t266.length co47, gb275) _ ⟨hHeld, (by (with_reducible repeat (first | apply Kd.R_alloc | apply Kd.R_drewN | apply Kd.R_drew)); exact Kd.R_mono HO268.out (fun _ hk => hk.2)), (by (with_reducible repeat (first | apply Kd.R_alloc | apply Kd.R_drewN | apply Kd.R_drew)); exact Kd.R_mono HO_26.out (fun _ hk => hk.2)), (by (with_reducible repeat (first | refine blk_drewN ?_ _ | refine blk_drew ?_ | refine blk_alloc ?_ _)); exact BK258.out), (by (with_reducible repeat (first | refine blk_drewN ?_ _ | refine blk_drew ?_ | refine blk_alloc ?_ _)); exact BK275.out), GW275.out, GE275.out, NB258_275.out, NB275_258.out, (by repeat (first | (with_reducible first | exact HB.out | apply below_alloc | apply pw_below_drewN | apply below_drew1 | refine below_set ?_ GE258.out | refine below_set ?_ GE275.out) | exact HB.out))⟩)
                            rintro ⟨v267, gb275⟩ w49 ⟨hS_, h0_, h1_, h2_, h3_, h4_, h5_, h6_, h7_, h8_⟩
                            have n0_ : Aside0 (Kd.R (Kd.int .i64) 3 w49 w.heap.size (fun k_ => some k_ ≠ (.slice Ao14 t261.length co14 : Value).ownBlock) v267 t266) := ⟨h0_⟩
                            have n1_ : Aside0 (Kd.R (Kd.int .i64) 3 w49 w.heap.size (fun k_ => some k_ ≠ (v267 : Value).ownBlock) (.slice Ao14 t261.length co14) t261) := ⟨h1_⟩
                            have n2_ : Aside0 (w49.heap[gb258]? = some (.cells #[.int .i64 ((rd_T36 l0 x14_1).f0), .int .i64 ((rd_T36 l0 x14_1).f1), .int .i64 ((rd_T36 l0 x14_1).f2), .int .i64 ((rd_T36 l0 x14_1).f3), .int .i64 ((rd_T36 l0 x14_1).f4)] 36 (0, 0))) := ⟨h2_⟩
                            have n3_ : Aside0 (w49.heap[gb275]? = some (.cells #[.int .i64 0, .int .i64 0, .int .i64 0, .int .i64 0, .int .i64 0] 36 (0, 0))) := ⟨h3_⟩
                            have n4_ : Aside0 (w.heap.size ≤ gb275) := ⟨h4_⟩
                            have n5_ : Aside0 (w.heap.size ≤ gb275) := ⟨h5_⟩
                            have n6_ : Aside0 (gb258 ≠ gb275) := ⟨h6_⟩
                            have n7_ : Aside0 (gb275 ≠ gb258) := ⟨h7_⟩
                            have n8_ : Aside0 (Below w.heap.size w w49) := ⟨h8_⟩
                            clear HO_26
                            clear BK258
                            clear HB
                            clear h0_ h1_ h2_ h3_ h4_ h5_ h6_ h7_ h8_
                            have HO268 := n0_
                            have HO_26 := n1_
                            have BK258 := n2_
                            have BK275 := n3_
                            have GW275 := n4_
                            have GE275 := n5_
                            have NB258_275 := n6_
                            have NB275_258 := n7_
                            have HB := n8_
                            clear n0_ n1_ n2_ n3_ n4_ n5_ n6_ n7_ n8_
                            have hHeld : w49.cell? ⟨gb258, 0, none⟩ = some (.int .i64 ((rd_T36 l0 x14_1).f0)) ∧ w49.cell? ⟨gb258, 1, none⟩ = some (.int .i64 ((rd_T36 l0 x14_1).f1)) ∧ w49.cell? ⟨gb258, 2, none⟩ = some (.int .i64 ((rd_T36 l0 x14_1).f2)) ∧ w49.cell? ⟨gb258, 3, none⟩ = some (.int .i64 ((rd_T36 l0 x14_1).f3)) ∧ w49.cell? ⟨gb258, 4, none⟩ = some (.int .i64 ((rd_T36 l0 x14_1).f4)) := hS_
                            refine norm_ (a' := ?_) ?_ ?_
                            rotate_left
                            · simp only [putAll, Act.put, List.setIfInBounds_toArray, List.set_cons_zero, List.set_cons_succ]
                              rfl
                            refine one_ (i := 9) (N := none) #[true, true, true, true, true, true, true, true, true, true, false] rfl rfl (one_of HT_.out (by kernel_rfl)) (by decide) (fun K hK => ?_)
                            have hs50 : w49.cell? ⟨gb275, 0, none⟩ = some (.int .i64 0) := (blk_cell BK275.out 0).trans rfl
                            have hfs50 := blk_frozen BK275.out 0
                            have hns50_0 := NB258_275.out
                            have hms50_0 := NB275_258.out
                            have hs51 : w49.cell? ⟨gb275, 1, none⟩ = some (.int .i64 0) := (blk_cell BK275.out 1).trans rfl
                            have hfs51 := blk_frozen BK275.out 1
                            have hns51_0 := NB258_275.out
                            have hms51_0 := NB275_258.out
                            have hs52 : w49.cell? ⟨gb275, 2, none⟩ = some (.int .i64 0) := (blk_cell BK275.out 2).trans rfl
                            have hfs52 := blk_frozen BK275.out 2
                            have hns52_0 := NB258_275.out
                            have hms52_0 := NB275_258.out
                            have hs53 : w49.cell? ⟨gb275, 3, none⟩ = some (.int .i64 0) := (blk_cell BK275.out 3).trans rfl
                            have hfs53 := blk_frozen BK275.out 3
                            have hns53_0 := NB258_275.out
                            have hms53_0 := NB275_258.out
                            have hs54 : w49.cell? ⟨gb275, 4, none⟩ = some (.int .i64 0) := (blk_cell BK275.out 4).trans rfl
                            have hfs54 := blk_frozen BK275.out 4
                            have hns54_0 := NB258_275.out
                            have hms54_0 := NB275_258.out
                            refine skip_ (w1 := ?_) (by rfl) rfl ?_ ?_
                            rotate_left
                            · go_simp
                              rfl
                            refine hK.out _ _ ⟨((cell_far (p := ⟨gb275, _, none⟩) NB258_275.out _).trans (((cell_far (p := ⟨gb275, _, none⟩) NB258_275.out _).trans (((cell_far (p := ⟨gb275, _, none⟩) NB258_275.out _).trans (((cell_far (p := ⟨gb275, _, none⟩) NB258_275.out _).trans (((cell_far (p := ⟨gb275, _, none⟩) NB258_275.out _).trans (hHeld.1)))))))))), ((cell_far (p := ⟨gb275, _, none⟩) NB258_275.out _).trans (((cell_far (p := ⟨gb275, _, none⟩) NB258_275.out _).trans (((cell_far (p := ⟨gb275, _, none⟩) NB258_275.out _).trans (((cell_far (p := ⟨gb275, _, none⟩) NB258_275.out _).trans (((cell_far (p := ⟨gb275, _, none⟩) NB258_275.out _).trans (hHeld.2.1)))))))))), ((cell_far (p := ⟨gb275, _, none⟩) NB258_275.out _).trans (((cell_far (p := ⟨gb275, _, none⟩) NB258_275.out _).trans (((cell_far (p := ⟨gb275, _, none⟩) NB258_275.out _).trans (((cell_far (p := ⟨gb275, _, none⟩) NB258_275.out _).trans (((cell_far (p := ⟨gb275, _, none⟩) NB258_275.out _).trans (hHeld.2.2.1)))))))))), ((cell_far (p := ⟨gb275, _, none⟩) NB258_275.out _).trans (((cell_far (p := ⟨gb275, _, none⟩) NB258_275.out _).trans (((cell_far (p := ⟨gb275, _, none⟩) NB258_275.out _).trans (((cell_far (p := ⟨gb275, _, none⟩) NB258_275.out _).trans (((cell_far (p := ⟨gb275, _, none⟩) NB258_275.out _).trans (hHeld.2.2.2.1)))))))))), ((cell_far (p := ⟨gb275, _, none⟩) NB258_275.out _).trans (((cell_far (p := ⟨gb275, _, none⟩) NB258_275.out _).trans (((cell_far (p := ⟨gb275, _, none⟩) NB258_275.out _).trans (((cell_far (p := ⟨gb275, _, none⟩) NB258_275.out _).trans (((cell_far (p := ⟨gb275, _, none⟩) NB258_275.out _).trans (hHeld.2.2.2.2))))))))))⟩ (fun hHeld => ?_)
                            clear hK K
                            refine pure_ (i := 10) (N := some 11) (v := ?_) (a' := ?_) #[true, true, true, true, true, true, true, true, true, true, true] rfl rfl (any_of HT_.out (by kernel_rfl)) (fun _ _ _ h => h) (Or.inl ⟨by rfl, ?_⟩) ?_ ?_
                            rotate_left
                            · intro w'
                              go_simp
                              with_reducible rfl
                            rotate_left
                            · simp only [Act.put, List.setIfInBounds_toArray, List.set_cons_zero, List.set_cons_succ, i64_w, i32_w]
                              rfl
                            refine done_ (done_of HT_.out (by kernel_rfl)) ?_
                            have hnb55 := NB275_258.out
                            have hnc55 := NB258_275.out
                            have hcz56_0 : w49.cell? ⟨gb275, 0, none⟩ = some (.int .i64 0) := (blk_cell BK275.out 0).trans rfl
                            have hcz56_1 : w49.cell? ⟨gb275, 1, none⟩ = some (.int .i64 0) := (blk_cell BK275.out 1).trans rfl
                            have hcz56_2 : w49.cell? ⟨gb275, 2, none⟩ = some (.int .i64 0) := (blk_cell BK275.out 2).trans rfl
                            have hcz56_3 : w49.cell? ⟨gb275, 3, none⟩ = some (.int .i64 0) := (blk_cell BK275.out 3).trans rfl
                            have hcz56_4 : w49.cell? ⟨gb275, 4, none⟩ = some (.int .i64 0) := (blk_cell BK275.out 4).trans rfl
                            have hfz56_0 := blk_frozen BK275.out 0
                            have hfz56_1 := blk_frozen BK275.out 1
                            have hfz56_2 := blk_frozen BK275.out 2
                            have hfz56_3 := blk_frozen BK275.out 3
                            have hfz56_4 := blk_frozen BK275.out 4
                            have hcz57_0 : w49.cell? ⟨gb258, 0, none⟩ = some (.int .i64 ((rd_T36 l0 x14_1).f0)) := (blk_cell BK258.out 0).trans rfl
                            have hcz57_1 : w49.cell? ⟨gb258, 1, none⟩ = some (.int .i64 ((rd_T36 l0 x14_1).f1)) := (blk_cell BK258.out 1).trans rfl
                            have hcz57_2 : w49.cell? ⟨gb258, 2, none⟩ = some (.int .i64 ((rd_T36 l0 x14_1).f2)) := (blk_cell BK258.out 2).trans rfl
                            have hcz57_3 : w49.cell? ⟨gb258, 3, none⟩ = some (.int .i64 ((rd_T36 l0 x14_1).f3)) := (blk_cell BK258.out 3).trans rfl
                            have hcz57_4 : w49.cell? ⟨gb258, 4, none⟩ = some (.int .i64 ((rd_T36 l0 x14_1).f4)) := (blk_cell BK258.out 4).trans rfl
                            have hfz57_0 := blk_frozen BK258.out 0
                            have hfz57_1 := blk_frozen BK258.out 1
                            have hfz57_2 := blk_frozen BK258.out 2
                            have hfz57_3 := blk_frozen BK258.out 3
                            have hfz57_4 := blk_frozen BK258.out 4
                            try go_wp2
                            go_roundg k2
                            case measure => have := HK1.out; have := HK2.out; omega
                            case rel => exact ⟨((x4_1 ++ x7_2) ++ (⟨#[10]⟩ : ByteArray)), (wrap64 (x14_1 + 1)), (by first | rfl | (simp; done) | (simp [*]; done)), (by first | rfl | (simp; done) | (simp [*]; done)), H', ⟨by have := HK1.out; have := HK2.out; omega⟩, ⟨by repeat (first | (with_reducible first | exact HB.out | apply below_alloc | apply pw_below_drewN | apply below_drew1 | refine below_set ?_ GE258.out | refine below_set ?_ GE275.out) | exact HB.out)⟩⟩
                          · rw [if_neg c43] at H
                            exact absurd H (by simp)
                        · rw [if_neg c42] at H
                          exact absurd H (by simp)
                    · replace c26 := Bool.eq_false_iff.mpr c26
                      subst c26
                      have H1 : (some ((⟨#[]⟩ : ByteArray), 1)) = some (r1, r2) := by rw [if_neg (show ¬ (false = true) by decide)] at H; exact H
                      clear H
                      have H := H1
                      clear H1
                      simp only [Option.some.injEq, Prod.mk.injEq] at H
                      obtain ⟨rfl, rfl⟩ := H
                      try go_wp2
                      have n0_ := Aside0.mk (Kd.R_drew HO_26.out)
                      have n1_ := Aside0.mk (blk_drew BK258.out)
                      have n2_ := Aside0.mk (below_drew1 HB.out)
                      clear HO_26
                      clear BK258
                      clear HB
                      have HO_26 := n0_
                      have BK258 := n1_
                      have HB := n2_
                      clear n0_ n1_ n2_
                      refine start_ (n := 11) (S := fun w' => w'.cell? ⟨gb258, 0, none⟩ = some (.int .i64 ((rd_T36 l0 x14_1).f0)) ∧ w'.cell? ⟨gb258, 1, none⟩ = some (.int .i64 ((rd_T36 l0 x14_1).f1)) ∧ w'.cell? ⟨gb258, 2, none⟩ = some (.int .i64 ((rd_T36 l0 x14_1).f2)) ∧ w'.cell? ⟨gb258, 3, none⟩ = some (.int .i64 ((rd_T36 l0 x14_1).f3)) ∧ w'.cell? ⟨gb258, 4, none⟩ = some (.int .i64 ((rd_T36 l0 x14_1).f4))) (ds := []) #[false, false, false, false, false, false, false, false, false, false, false] (by kernel_rfl) rfl rfl ⟨(blk_cell BK258.out 0).trans rfl, (blk_cell BK258.out 1).trans rfl, (blk_cell BK258.out 2).trans rfl, (blk_cell BK258.out 3).trans rfl, (blk_cell BK258.out 4).trans rfl⟩ (fun hHeld => ?_); refine with_tabW fletchref21_Text.tab15 fletchref21_Text.bits15 (fun HT_ HW_ => ?_)
                      generalize wr.drew = w58 at HO_26 BK258 HB hHeld ⊢
                      refine pure_ (i := 0) (N := some 45) (v := ?_) (a' := ?_) #[true, false, false, false, false, false, false, false, false, false, false] rfl rfl (any_of HT_.out (by kernel_rfl)) (fun _ _ _ h => h) (Or.inl ⟨by rfl, ?_⟩) ?_ ?_
                      rotate_left
                      · intro w'
                        go_simp
                        with_reducible rfl
                      rotate_left
                      · simp only [Act.put, List.setIfInBounds_toArray, List.set_cons_zero, List.set_cons_succ, i64_w, i32_w]
                        rfl
                      refine take_ (i := 1) (N := some 46) (v := ?_) (a' := ?_) #[true, true, false, false, false, false, false, false, false, false, false] rfl rfl (take_ofW HT_.out HW_.out (by kernel_rfl)) (fun _ _ _ h => h) (Or.inl ⟨by rfl, ?_⟩) hHeld ?_ ?_
                      rotate_left
                      · rintro w' ⟨s0, s1, s2, s3, s4⟩
                        go_simp
                        with_reducible rfl
                      rotate_left
                      · simp only [Act.put, List.setIfInBounds_toArray, List.set_cons_zero, List.set_cons_succ, i64_w, i32_w]
                        rfl
                      refine take_ (i := 2) (N := some 47) (v := ?_) (a' := ?_) #[true, true, true, false, false, false, false, false, false, false, false] rfl rfl (take_ofW HT_.out HW_.out (by kernel_rfl)) (fun _ _ _ h => h) (Or.inl ⟨by rfl, ?_⟩) hHeld ?_ ?_
                      rotate_left
                      · rintro w' ⟨s0, s1, s2, s3, s4⟩
                        go_simp
                        with_reducible rfl
                      rotate_left
                      · simp only [Act.put, List.setIfInBounds_toArray, List.set_cons_zero, List.set_cons_succ, i64_w, i32_w]
                        rfl
                      refine join_ (σ := Value × Nat) 2 #[true, true, true, true, true, true, true, true, true, false, false] (fun s_ => [(48, s_.1), (49, .tuple #[.agg #[.int .i64 t269, .int .i64 t270, .int .i64 t271, .int .i64 t272, .int .i64 t273], .bool false]), (10, .pointer (some ⟨s_.2, 0, none⟩)), (44, .tuple #[.agg #[.int .i64 t269, .int .i64 t270, .int .i64 t271, .int .i64 t272, .int .i64 t273], .bool false]), (50, .agg #[.int .i64 t269, .int .i64 t270, .int .i64 t271, .int .i64 t272, .int .i64 t273]), (51, .bool false)]) (fun s_ w' => (w'.cell? ⟨gb258, 0, none⟩ = some (.int .i64 ((rd_T36 l0 x14_1).f0)) ∧ w'.cell? ⟨gb258, 1, none⟩ = some (.int .i64 ((rd_T36 l0 x14_1).f1)) ∧ w'.cell? ⟨gb258, 2, none⟩ = some (.int .i64 ((rd_T36 l0 x14_1).f2)) ∧ w'.cell? ⟨gb258, 3, none⟩ = some (.int .i64 ((rd_T36 l0 x14_1).f3)) ∧ w'.cell? ⟨gb258, 4, none⟩ = some (.int .i64 ((rd_T36 l0 x14_1).f4))) ∧ (Kd.R (Kd.int .i64) 3 w' w.heap.size (fun k_ => some k_ ≠ (.slice Ao14 t261.length co14 : Value).ownBlock) s_.1 t266) ∧ (Kd.R (Kd.int .i64) 3 w' w.heap.size (fun k_ => some k_ ≠ (s_.1 : Value).ownBlock) (.slice Ao14 t261.length co14) t261) ∧ (w'.heap[gb258]? = some (.cells #[.int .i64 ((rd_T36 l0 x14_1).f0), .int .i64 ((rd_T36 l0 x14_1).f1), .int .i64 ((rd_T36 l0 x14_1).f2), .int .i64 ((rd_T36 l0 x14_1).f3), .int .i64 ((rd_T36 l0 x14_1).f4)] 36 (0, 0))) ∧ (w'.heap[s_.2]? = some (.cells #[.int .i64 0, .int .i64 0, .int .i64 0, .int .i64 0, .int .i64 0] 36 (0, 0))) ∧ (w.heap.size ≤ s_.2) ∧ (w.heap.size ≤ s_.2) ∧ (gb258 ≠ s_.2) ∧ (s_.2 ≠ gb258) ∧ (Below w.heap.size w w')) ?_ ?_
                      rotate_left
                      · intro hCont
                        refine two_ (i := 3) (j := 8) (Ni := some 48) (Nj := some 10) #[true, true, true, true, false, false, false, false, false, false, false] #[true, true, true, false, false, false, false, false, true, false, false] rfl rfl rfl rfl (two_of HT_.out (by kernel_rfl)) (by decide) (by decide) (fun K hK => ?_) (fun K hK => ?_)
                        · skip
                          refine goes_ Tryd.func26 (by kernel_rfl) rfl #[.agg #[.int .i64 ((rd_T36 l0 x14_1).f0), .int .i64 ((rd_T36 l0 x14_1).f1), .int .i64 ((rd_T36 l0 x14_1).f2), .int .i64 ((rd_T36 l0 x14_1).f3), .int .i64 ((rd_T36 l0 x14_1).f4)]] (by rfl) rfl rfl (by (try simp only [List.map_toArray, List.map_cons, List.map_nil]); first | done | rfl | (simp only [List.length_drop, List.length_take]; rfl)) ?_
                          with_reducible refine (fletchref21_told.calls k2 ((rd_T36 l0 x14_1).f0) ((rd_T36 l0 x14_1).f1) ((rd_T36 l0 x14_1).f2) ((rd_T36 l0 x14_1).f3) ((rd_T36 l0 x14_1).f4) t266 _ A24.out).mono ?_
                          rintro e w59 ⟨v267, rfl, ho0, hb⟩
                          refine ⟨_, rfl, ?_⟩
                          have n0_ := Aside0.mk (Kd.R_elder' (by (with_reducible repeat (first | apply Kd.R_alloc | apply Kd.R_drewN | apply Kd.R_drew)); exact HO_26.out) (Kd.R_base ho0) hb)
                          have n1_ := Aside0.mk (Kd.R_lower (Kd.R_new' ho0 (Kd.R_lt (by (with_reducible repeat (first | apply Kd.R_alloc | apply Kd.R_drewN | apply Kd.R_drew)); exact HO_26.out))) (below_size (by repeat (first | (with_reducible first | exact HB.out | apply below_alloc | apply pw_below_drewN | apply below_drew1 | refine below_set ?_ GE258.out) | exact HB.out))))
                          have n2_ := Aside0.mk (blk_below (g := gb258) (o := .cells #[.int .i64 ((rd_T36 l0 x14_1).f0), .int .i64 ((rd_T36 l0 x14_1).f1), .int .i64 ((rd_T36 l0 x14_1).f2), .int .i64 ((rd_T36 l0 x14_1).f3), .int .i64 ((rd_T36 l0 x14_1).f4)] 36 (0, 0)) (by (with_reducible repeat (first | refine blk_drewN ?_ _ | refine blk_drew ?_ | refine blk_alloc ?_ _)); exact BK258.out) hb)
                          have n3_ := Aside0.mk (below_step (by repeat (first | (with_reducible first | exact HB.out | apply below_alloc | apply pw_below_drewN | apply below_drew1 | refine below_set ?_ GE258.out) | exact HB.out)) hb)
                          clear HO_26
                          clear BK258
                          clear HB
                          have HO_26 := n0_
                          have HO268 := n1_
                          have BK258 := n2_
                          have HB := n3_
                          clear n0_ n1_ n2_ n3_
                          (try clear hb)
                          (try clear hb2)
                          (try clear hk)
                          (try clear hi)
                          (try clear ho0)
                          obtain ⟨Ao60, co60, eo60⟩ := Kd.R_slice HO268.out
                          (first | subst eo60 | (injection eo60 with f1_ f2_ f3_; have f4_ := f1_.symm; have f5_ := f3_.symm; clear f1_ f2_ f3_; subst f4_; subst f5_))
                          refine hK.out _ _ ⟨(blk_cell BK258.out 0).trans rfl, (blk_cell BK258.out 1).trans rfl, (blk_cell BK258.out 2).trans rfl, (blk_cell BK258.out 3).trans rfl, (blk_cell BK258.out 4).trans rfl⟩ (fun hHeld => ?_)
                          clear hK K
                          refine norm_ (a' := ?_) ?_ ?_
                          rotate_left
                          · show Act.put _ (some 48) _ = _
                            simp only [Act.put, List.setIfInBounds_toArray, List.set_cons_zero, List.set_cons_succ, i64_w, i32_w]
                            rfl
                          refine two_ (i := 4) (j := 8) (Ni := some 49) (Nj := some 10) #[true, true, true, true, true, false, false, false, false, false, false] #[true, true, true, true, false, false, false, false, true, false, false] rfl rfl rfl rfl (two_of HT_.out (by kernel_rfl)) (by decide) (by decide) (fun K hK => ?_) (fun K hK => ?_)
                          · skip
                            refine goes_ Tryd.func27 (by kernel_rfl) rfl #[.int .i64 ((rd_T36 l0 x14_1).f0), .slice Ao60 t266.length co60] (by rfl) rfl rfl (by (try simp only [List.map_toArray, List.map_cons, List.map_nil]); first | done | rfl | (simp only [List.length_drop, List.length_take]; rfl)) ?_
                            with_reducible refine (fletchref21_made.calls k2 ((rd_T36 l0 x14_1).f0) _ _ t266 t269 t270 t271 t272 t273 false _ ?side1 ?side2 A25.out).mono ?_
                            (case side1 => repeat (first | exact (Kd.R_reads' HO268.out).2.2 | (with_reducible refine Kd.C_alloc ?_ _) | (with_reducible refine Kd.C_drewN ?_ _) | (with_reducible refine Kd.C_drew ?_)))
                            (case side2 => exact (Kd.R_reads' HO268.out).2.1)
                            rintro e w61 ⟨rfl, hb⟩
                            refine ⟨_, rfl, ?_⟩
                            have n0_ := Aside0.mk (Kd.R_below (by (with_reducible repeat (first | apply Kd.R_alloc | apply Kd.R_drewN | apply Kd.R_drew)); exact HO_26.out) hb)
                            have n1_ := Aside0.mk (Kd.R_below (by (with_reducible repeat (first | apply Kd.R_alloc | apply Kd.R_drewN | apply Kd.R_drew)); exact HO268.out) hb)
                            have n2_ := Aside0.mk (blk_below (g := gb258) (o := .cells #[.int .i64 ((rd_T36 l0 x14_1).f0), .int .i64 ((rd_T36 l0 x14_1).f1), .int .i64 ((rd_T36 l0 x14_1).f2), .int .i64 ((rd_T36 l0 x14_1).f3), .int .i64 ((rd_T36 l0 x14_1).f4)] 36 (0, 0)) (by (with_reducible repeat (first | refine blk_drewN ?_ _ | refine blk_drew ?_ | refine blk_alloc ?_ _)); exact BK258.out) hb)
                            have n3_ := Aside0.mk (below_step (by repeat (first | (with_reducible first | exact HB.out | apply below_alloc | apply pw_below_drewN | apply below_drew1 | refine below_set ?_ GE258.out) | exact HB.out)) hb)
                            clear HO_26
                            clear HO268
                            clear BK258
                            clear HB
                            have HO_26 := n0_
                            have HO268 := n1_
                            have BK258 := n2_
                            have HB := n3_
                            clear n0_ n1_ n2_ n3_
                            (try clear hb)
                            (try clear hb2)
                            (try clear hk)
                            (try clear hi)
                            refine hK.out _ _ ⟨(blk_cell BK258.out 0).trans rfl, (blk_cell BK258.out 1).trans rfl, (blk_cell BK258.out 2).trans rfl, (blk_cell BK258.out 3).trans rfl, (blk_cell BK258.out 4).trans rfl⟩ (fun hHeld => ?_)
                            clear hK K
                            refine norm_ (a' := ?_) ?_ ?_
                            rotate_left
                            · show Act.put _ (some 49) _ = _
                              simp only [Act.put, List.setIfInBounds_toArray, List.set_cons_zero, List.set_cons_succ, i64_w, i32_w]
                              rfl
                            refine pure_ (i := 5) (N := some 44) (v := ?_) (a' := ?_) #[true, true, true, true, true, true, false, false, false, false, false] rfl rfl (any_of HT_.out (by kernel_rfl)) (fun _ _ _ h => h) (Or.inl ⟨by rfl, ?_⟩) ?_ ?_
                            rotate_left
                            · intro w'
                              go_simp
                              with_reducible rfl
                            rotate_left
                            · simp only [Act.put, List.setIfInBounds_toArray, List.set_cons_zero, List.set_cons_succ, i64_w, i32_w]
                              rfl
                            refine pure_ (i := 6) (N := some 50) (v := ?_) (a' := ?_) #[true, true, true, true, true, true, true, false, false, false, false] rfl rfl (any_of HT_.out (by kernel_rfl)) (fun _ _ _ h => h) (Or.inl ⟨by rfl, ?_⟩) ?_ ?_
                            rotate_left
                            · intro w'
                              go_simp
                              with_reducible rfl
                            rotate_left
                            · simp only [Act.put, List.setIfInBounds_toArray, List.set_cons_zero, List.set_cons_succ, i64_w, i32_w]
                              rfl
                            refine pure_ (i := 7) (N := some 51) (v := ?_) (a' := ?_) #[true, true, true, true, true, true, true, true, false, false, false] rfl rfl (any_of HT_.out (by kernel_rfl)) (fun _ _ _ h => h) (Or.inl ⟨by rfl, ?_⟩) ?_ ?_
                            rotate_left
                            · intro w'
                              go_simp
                              with_reducible rfl
                            rotate_left
                            · simp only [Act.put, List.setIfInBounds_toArray, List.set_cons_zero, List.set_cons_succ, i64_w, i32_w]
                              rfl
                            refine one_ (i := 8) (N := some 10) #[true, true, true, true, true, true, true, true, true, false, false] rfl rfl (one_of HT_.out (by kernel_rfl)) (by decide) (fun K hK => ?_)
                            refine box_step ?hg (N := 10) ?hd (cs := #[.int .i64 0, .int .i64 0, .int .i64 0, .int .i64 0, .int .i64 0]) (t := 36) ?hr ?_; (case hd => rfl); (case hg => rfl); (case hr => first | (go_simp; done) | (go_simp; rfl))
                            intro gb275 hg w62 hbox hb
                            have n0_ := Aside0.mk (Kd.R_below (by (with_reducible repeat (first | apply Kd.R_alloc | apply Kd.R_drewN | apply Kd.R_drew)); exact HO_26.out) hb)
                            have n1_ := Aside0.mk (Kd.R_below (by (with_reducible repeat (first | apply Kd.R_alloc | apply Kd.R_drewN | apply Kd.R_drew)); exact HO268.out) hb)
                            have n2_ := Aside0.mk (blk_below (g := gb258) (o := .cells #[.int .i64 ((rd_T36 l0 x14_1).f0), .int .i64 ((rd_T36 l0 x14_1).f1), .int .i64 ((rd_T36 l0 x14_1).f2), .int .i64 ((rd_T36 l0 x14_1).f3), .int .i64 ((rd_T36 l0 x14_1).f4)] 36 (0, 0)) (by (with_reducible repeat (first | refine blk_drewN ?_ _ | refine blk_drew ?_ | refine blk_alloc ?_ _)); exact BK258.out) hb)
                            have n3_ := Aside0.mk (below_step (by repeat (first | (with_reducible first | exact HB.out | apply below_alloc | apply pw_below_drewN | apply below_drew1 | refine below_set ?_ GE258.out) | exact HB.out)) hb)
                            have n4_ := Aside0.mk (hbox)
                            have n5_ := Aside0.mk ((by rw [hg]; exact (below_size (by repeat (first | (with_reducible first | exact HB.out | apply below_alloc | apply pw_below_drewN | apply below_drew1 | refine below_set ?_ GE258.out) | exact HB.out))) : w.heap.size ≤ gb275))
                            have n6_ := Aside0.mk ((by rw [hg]; exact (below_size (by repeat (first | (with_reducible first | exact HB.out | apply below_alloc | apply pw_below_drewN | apply below_drew1 | refine below_set ?_ GE258.out) | exact HB.out))) : w.heap.size ≤ gb275))
                            have n7_ := Aside0.mk ((by rw [hg]; exact Nat.ne_of_lt (blk_lt (g := gb258) (o := .cells #[.int .i64 ((rd_T36 l0 x14_1).f0), .int .i64 ((rd_T36 l0 x14_1).f1), .int .i64 ((rd_T36 l0 x14_1).f2), .int .i64 ((rd_T36 l0 x14_1).f3), .int .i64 ((rd_T36 l0 x14_1).f4)] 36 (0, 0)) (by (with_reducible repeat (first | refine blk_drewN ?_ _ | refine blk_drew ?_ | refine blk_alloc ?_ _)); exact BK258.out)) : gb258 ≠ gb275))
                            have n8_ := Aside0.mk ((by rw [hg]; exact Nat.ne_of_gt (blk_lt (g := gb258) (o := .cells #[.int .i64 ((rd_T36 l0 x14_1).f0), .int .i64 ((rd_T36 l0 x14_1).f1), .int .i64 ((rd_T36 l0 x14_1).f2), .int .i64 ((rd_T36 l0 x14_1).f3), .int .i64 ((rd_T36 l0 x14_1).f4)] 36 (0, 0)) (by (with_reducible repeat (first | refine blk_drewN ?_ _ | refine blk_drew ?_ | refine blk_alloc ?_ _)); exact BK258.out)) : gb275 ≠ gb258))
                            clear HO_26
                            clear HO268
                            clear BK258
                            clear HB
                            have HO_26 := n0_
                            have HO268 := n1_
                            have BK258 := n2_
                            have HB := n3_
                            have BK275 := n4_
                            have GW275 := n5_
                            have GE275 := n6_
                            have NB258_275 := n7_
                            have NB275_258 := n8_
                            clear n0_ n1_ n2_ n3_ n4_ n5_ n6_ n7_ n8_
                            clear hb hbox hg
                            refine hK.out _ _ ⟨(blk_cell BK258.out 0).trans rfl, (blk_cell BK258.out 1).trans rfl, (blk_cell BK258.out 2).trans rfl, (blk_cell BK258.out 3).trans rfl, (blk_cell BK258.out 4).trans rfl⟩ (fun hHeld => ?_)
                            clear hK K
                            refine norm_ (a' := ?_) ?_ ?_
                            rotate_left
                            · show Act.put _ (some 10) _ = _
                              simp only [Act.put, List.setIfInBounds_toArray, List.set_cons_zero, List.set_cons_succ, i64_w, i32_w]
                              rfl
                            exact norm_ (by simp only [putAll, Act.put, List.setIfInBounds_toArray, List.set_cons_zero, List.set_cons_succ]) (hCont (.slice Ao60 t266.length co60, gb275) _ ⟨hHeld, (by (with_reducible repeat (first | apply Kd.R_alloc | apply Kd.R_drewN | apply Kd.R_drew)); exact Kd.R_mono HO268.out (fun _ hk => hk.2)), (by (with_reducible repeat (first | apply Kd.R_alloc | apply Kd.R_drewN | apply Kd.R_drew)); exact Kd.R_mono HO_26.out (fun _ hk => hk.2)), (by (with_reducible repeat (first | refine blk_drewN ?_ _ | refine blk_drew ?_ | refine blk_alloc ?_ _)); exact BK258.out), (by (with_reducible repeat (first | refine blk_drewN ?_ _ | refine blk_drew ?_ | refine blk_alloc ?_ _)); exact BK275.out), GW275.out, GE275.out, NB258_275.out, NB275_258.out, (by repeat (first | (with_reducible first | exact HB.out | apply below_alloc | apply pw_below_drewN | apply below_drew1 | refine below_set ?_ GE258.out | refine below_set ?_ GE275.out) | exact HB.out))⟩)
                          · skip
                            refine box_step ?hg (N := 10) ?hd (cs := #[.int .i64 0, .int .i64 0, .int .i64 0, .int .i64 0, .int .i64 0]) (t := 36) ?hr ?_; (case hd => rfl); (case hg => rfl); (case hr => first | (go_simp; done) | (go_simp; rfl))
                            intro gb275 hg w60 hbox hb
                            have n0_ := Aside0.mk (Kd.R_below (by (with_reducible repeat (first | apply Kd.R_alloc | apply Kd.R_drewN | apply Kd.R_drew)); exact HO_26.out) hb)
                            have n1_ := Aside0.mk (Kd.R_below (by (with_reducible repeat (first | apply Kd.R_alloc | apply Kd.R_drewN | apply Kd.R_drew)); exact HO268.out) hb)
                            have n2_ := Aside0.mk (blk_below (g := gb258) (o := .cells #[.int .i64 ((rd_T36 l0 x14_1).f0), .int .i64 ((rd_T36 l0 x14_1).f1), .int .i64 ((rd_T36 l0 x14_1).f2), .int .i64 ((rd_T36 l0 x14_1).f3), .int .i64 ((rd_T36 l0 x14_1).f4)] 36 (0, 0)) (by (with_reducible repeat (first | refine blk_drewN ?_ _ | refine blk_drew ?_ | refine blk_alloc ?_ _)); exact BK258.out) hb)
                            have n3_ := Aside0.mk (below_step (by repeat (first | (with_reducible first | exact HB.out | apply below_alloc | apply pw_below_drewN | apply below_drew1 | refine below_set ?_ GE258.out) | exact HB.out)) hb)
                            have n4_ := Aside0.mk (hbox)
                            have n5_ := Aside0.mk ((by rw [hg]; exact (below_size (by repeat (first | (with_reducible first | exact HB.out | apply below_alloc | apply pw_below_drewN | apply below_drew1 | refine below_set ?_ GE258.out) | exact HB.out))) : w.heap.size ≤ gb275))
                            have n6_ := Aside0.mk ((by rw [hg]; exact (below_size (by repeat (first | (with_reducible first | exact HB.out | apply below_alloc | apply pw_below_drewN | apply below_drew1 | refine below_set ?_ GE258.out) | exact HB.out))) : w.heap.size ≤ gb275))
                            have n7_ := Aside0.mk ((by rw [hg]; exact Nat.ne_of_lt (blk_lt (g := gb258) (o := .cells #[.int .i64 ((rd_T36 l0 x14_1).f0), .int .i64 ((rd_T36 l0 x14_1).f1), .int .i64 ((rd_T36 l0 x14_1).f2), .int .i64 ((rd_T36 l0 x14_1).f3), .int .i64 ((rd_T36 l0 x14_1).f4)] 36 (0, 0)) (by (with_reducible repeat (first | refine blk_drewN ?_ _ | refine blk_drew ?_ | refine blk_alloc ?_ _)); exact BK258.out)) : gb258 ≠ gb275))
                            have n8_ := Aside0.mk ((by rw [hg]; exact Nat.ne_of_gt (blk_lt (g := gb258) (o := .cells #[.int .i64 ((rd_T36 l0 x14_1).f0), .int .i64 ((rd_T36 l0 x14_1).f1), .int .i64 ((rd_T36 l0 x14_1).f2), .int .i64 ((rd_T36 l0 x14_1).f3), .int .i64 ((rd_T36 l0 x14_1).f4)] 36 (0, 0)) (by (with_reducible repeat (first | refine blk_drewN ?_ _ | refine blk_drew ?_ | refine blk_alloc ?_ _)); exact BK258.out)) : gb275 ≠ gb258))
                            clear HO_26
                            clear HO268
                            clear BK258
                            clear HB
                            have HO_26 := n0_
                            have HO268 := n1_
                            have BK258 := n2_
                            have HB := n3_
                            have BK275 := n4_
                            have GW275 := n5_
                            have GE275 := n6_
                            have NB258_275 := n7_
                            have NB275_258 := n8_
                            clear n0_ n1_ n2_ n3_ n4_ n5_ n6_ n7_ n8_
                            clear hb hbox hg
                            obtain ⟨Ao61, co61, eo61⟩ := Kd.R_slice HO268.out
                            (first | subst eo61 | (injection eo61 with f1_ f2_ f3_; have f4_ := f1_.symm; have f5_ := f3_.symm; clear f1_ f2_ f3_; subst f4_; subst f5_))
                            refine hK.out _ _ ⟨(blk_cell BK258.out 0).trans rfl, (blk_cell BK258.out 1).trans rfl, (blk_cell BK258.out 2).trans rfl, (blk_cell BK258.out 3).trans rfl, (blk_cell BK258.out 4).trans rfl⟩ (fun hHeld => ?_)
                            clear hK K
                            refine norm_ (a' := ?_) ?_ ?_
                            rotate_left
                            · show Act.put _ (some 10) _ = _
                              simp only [Act.put, List.setIfInBounds_toArray, List.set_cons_zero, List.set_cons_succ, i64_w, i32_w]
                              rfl
                            refine one_ (i := 4) (N := some 49) #[true, true, true, true, true, false, false, false, true, false, false] rfl rfl (one_of HT_.out (by kernel_rfl)) (by decide) (fun K hK => ?_)
                            refine goes_ Tryd.func27 (by kernel_rfl) rfl #[.int .i64 ((rd_T36 l0 x14_1).f0), .slice Ao61 t266.length co61] (by rfl) rfl rfl (by (try simp only [List.map_toArray, List.map_cons, List.map_nil]); first | done | rfl | (simp only [List.length_drop, List.length_take]; rfl)) ?_
                            with_reducible refine (fletchref21_made.calls k2 ((rd_T36 l0 x14_1).f0) _ _ t266 t269 t270 t271 t272 t273 false _ ?side1 ?side2 A25.out).mono ?_
                            (case side1 => repeat (first | exact (Kd.R_reads' HO268.out).2.2 | (with_reducible refine Kd.C_alloc ?_ _) | (with_reducible refine Kd.C_drewN ?_ _) | (with_reducible refine Kd.C_drew ?_)))
                            (case side2 => exact (Kd.R_reads' HO268.out).2.1)
                            rintro e w62 ⟨rfl, hb⟩
                            refine ⟨_, rfl, ?_⟩
                            have n0_ := Aside0.mk (Kd.R_below (by (with_reducible repeat (first | apply Kd.R_alloc | apply Kd.R_drewN | apply Kd.R_drew)); exact HO_26.out) hb)
                            have n1_ := Aside0.mk (Kd.R_below (by (with_reducible repeat (first | apply Kd.R_alloc | apply Kd.R_drewN | apply Kd.R_drew)); exact HO268.out) hb)
                            have n2_ := Aside0.mk (blk_below (g := gb258) (o := .cells #[.int .i64 ((rd_T36 l0 x14_1).f0), .int .i64 ((rd_T36 l0 x14_1).f1), .int .i64 ((rd_T36 l0 x14_1).f2), .int .i64 ((rd_T36 l0 x14_1).f3), .int .i64 ((rd_T36 l0 x14_1).f4)] 36 (0, 0)) (by (with_reducible repeat (first | refine blk_drewN ?_ _ | refine blk_drew ?_ | refine blk_alloc ?_ _)); exact BK258.out) hb)
                            have n3_ := Aside0.mk (blk_below (g := gb275) (o := .cells #[.int .i64 0, .int .i64 0, .int .i64 0, .int .i64 0, .int .i64 0] 36 (0, 0)) (by (with_reducible repeat (first | refine blk_drewN ?_ _ | refine blk_drew ?_ | refine blk_alloc ?_ _)); exact BK275.out) hb)
                            have n4_ := Aside0.mk (below_step (by repeat (first | (with_reducible first | exact HB.out | apply below_alloc | apply pw_below_drewN | apply below_drew1 | refine below_set ?_ GE258.out | refine below_set ?_ GE275.out) | exact HB.out)) hb)
                            clear HO_26
                            clear HO268
                            clear BK258
                            clear BK275
                            clear HB
                            have HO_26 := n0_
                            have HO268 := n1_
                            have BK258 := n2_
                            have BK275 := n3_
                            have HB := n4_
                            clear n0_ n1_ n2_ n3_ n4_
                            (try clear hb)
                            (try clear hb2)
                            (try clear hk)
                            (try clear hi)
                            refine hK.out _ _ ⟨(blk_cell BK258.out 0).trans rfl, (blk_cell BK258.out 1).trans rfl, (blk_cell BK258.out 2).trans rfl, (blk_cell BK258.out 3).trans rfl, (blk_cell BK258.out 4).trans rfl⟩ (fun hHeld => ?_)
                            clear hK K
                            refine norm_ (a' := ?_) ?_ ?_
                            rotate_left
                            · show Act.put _ (some 49) _ = _
                              simp only [Act.put, List.setIfInBounds_toArray, List.set_cons_zero, List.set_cons_succ, i64_w, i32_w]
                              rfl
                            refine pure_ (i := 5) (N := some 44) (v := ?_) (a' := ?_) #[true, true, true, true, true, true, false, false, true, false, false] rfl rfl (any_of HT_.out (by kernel_rfl)) (fun _ _ _ h => h) (Or.inl ⟨by rfl, ?_⟩) ?_ ?_
                            rotate_left
                            · intro w'
                              go_simp
                              with_reducible rfl
                            rotate_left
                            · simp only [Act.put, List.setIfInBounds_toArray, List.set_cons_zero, List.set_cons_succ, i64_w, i32_w]
                              rfl
                            refine pure_ (i := 6) (N := some 50) (v := ?_) (a' := ?_) #[true, true, true, true, true, true, true, false, true, false, false] rfl rfl (any_of HT_.out (by kernel_rfl)) (fun _ _ _ h => h) (Or.inl ⟨by rfl, ?_⟩) ?_ ?_
                            rotate_left
                            · intro w'
                              go_simp
                              with_reducible rfl
                            rotate_left
                            · simp only [Act.put, List.setIfInBounds_toArray, List.set_cons_zero, List.set_cons_succ, i64_w, i32_w]
                              rfl
                            refine pure_ (i := 7) (N := some 51) (v := ?_) (a' := ?_) #[true, true, true, true, true, true, true, true, true, false, false] rfl rfl (any_of HT_.out (by kernel_rfl)) (fun _ _ _ h => h) (Or.inl ⟨by rfl, ?_⟩) ?_ ?_
                            rotate_left
                            · intro w'
                              go_simp
                              with_reducible rfl
                            rotate_left
                            · simp only [Act.put, List.setIfInBounds_toArray, List.set_cons_zero, List.set_cons_succ, i64_w, i32_w]
                              rfl
                            exact norm_ (by simp only [putAll, Act.put, List.setIfInBounds_toArray, List.set_cons_zero, List.set_cons_succ]) (hCont (.slice Ao61 t266.length co61, gb275) _ ⟨hHeld, (by (with_reducible repeat (first | apply Kd.R_alloc | apply Kd.R_drewN | apply Kd.R_drew)); exact Kd.R_mono HO268.out (fun _ hk => hk.2)), (by (with_reducible repeat (first | apply Kd.R_alloc | apply Kd.R_drewN | apply Kd.R_drew)); exact Kd.R_mono HO_26.out (fun _ hk => hk.2)), (by (with_reducible repeat (first | refine blk_drewN ?_ _ | refine blk_drew ?_ | refine blk_alloc ?_ _)); exact BK258.out), (by (with_reducible repeat (first | refine blk_drewN ?_ _ | refine blk_drew ?_ | refine blk_alloc ?_ _)); exact BK275.out), GW275.out, GE275.out, NB258_275.out, NB275_258.out, (by repeat (first | (with_reducible first | exact HB.out | apply below_alloc | apply pw_below_drewN | apply below_drew1 | refine below_set ?_ GE258.out | refine below_set ?_ GE275.out) | exact HB.out))⟩)
                        · skip
                          refine box_step ?hg (N := 10) ?hd (cs := #[.int .i64 0, .int .i64 0, .int .i64 0, .int .i64 0, .int .i64 0]) (t := 36) ?hr ?_; (case hd => rfl); (case hg => rfl); (case hr => first | (go_simp; done) | (go_simp; rfl))
                          intro gb275 hg w59 hbox hb
                          have n0_ := Aside0.mk (Kd.R_below (by (with_reducible repeat (first | apply Kd.R_alloc | apply Kd.R_drewN | apply Kd.R_drew)); exact HO_26.out) hb)
                          have n1_ := Aside0.mk (blk_below (g := gb258) (o := .cells #[.int .i64 ((rd_T36 l0 x14_1).f0), .int .i64 ((rd_T36 l0 x14_1).f1), .int .i64 ((rd_T36 l0 x14_1).f2), .int .i64 ((rd_T36 l0 x14_1).f3), .int .i64 ((rd_T36 l0 x14_1).f4)] 36 (0, 0)) (by (with_reducible repeat (first | refine blk_drewN ?_ _ | refine blk_drew ?_ | refine blk_alloc ?_ _)); exact BK258.out) hb)
                          have n2_ := Aside0.mk (below_step (by repeat (first | (with_reducible first | exact HB.out | apply below_alloc | apply pw_below_drewN | apply below_drew1 | refine below_set ?_ GE258.out) | exact HB.out)) hb)
                          have n3_ := Aside0.mk (hbox)
                          have n4_ := Aside0.mk ((by rw [hg]; exact (below_size (by repeat (first | (with_reducible first | exact HB.out | apply below_alloc | apply pw_below_drewN | apply below_drew1 | refine below_set ?_ GE258.out) | exact HB.out))) : w.heap.size ≤ gb275))
                          have n5_ := Aside0.mk ((by rw [hg]; exact (below_size (by repeat (first | (with_reducible first | exact HB.out | apply below_alloc | apply pw_below_drewN | apply below_drew1 | refine below_set ?_ GE258.out) | exact HB.out))) : w.heap.size ≤ gb275))
                          have n6_ := Aside0.mk ((by rw [hg]; exact Nat.ne_of_lt (blk_lt (g := gb258) (o := .cells #[.int .i64 ((rd_T36 l0 x14_1).f0), .int .i64 ((rd_T36 l0 x14_1).f1), .int .i64 ((rd_T36 l0 x14_1).f2), .int .i64 ((rd_T36 l0 x14_1).f3), .int .i64 ((rd_T36 l0 x14_1).f4)] 36 (0, 0)) (by (with_reducible repeat (first | refine blk_drewN ?_ _ | refine blk_drew ?_ | refine blk_alloc ?_ _)); exact BK258.out)) : gb258 ≠ gb275))
                          have n7_ := Aside0.mk ((by rw [hg]; exact Nat.ne_of_gt (blk_lt (g := gb258) (o := .cells #[.int .i64 ((rd_T36 l0 x14_1).f0), .int .i64 ((rd_T36 l0 x14_1).f1), .int .i64 ((rd_T36 l0 x14_1).f2), .int .i64 ((rd_T36 l0 x14_1).f3), .int .i64 ((rd_T36 l0 x14_1).f4)] 36 (0, 0)) (by (with_reducible repeat (first | refine blk_drewN ?_ _ | refine blk_drew ?_ | refine blk_alloc ?_ _)); exact BK258.out)) : gb275 ≠ gb258))
                          clear HO_26
                          clear BK258
                          clear HB
                          have HO_26 := n0_
                          have BK258 := n1_
                          have HB := n2_
                          have BK275 := n3_
                          have GW275 := n4_
                          have GE275 := n5_
                          have NB258_275 := n6_
                          have NB275_258 := n7_
                          clear n0_ n1_ n2_ n3_ n4_ n5_ n6_ n7_
                          clear hb hbox hg
                          refine hK.out _ _ ⟨(blk_cell BK258.out 0).trans rfl, (blk_cell BK258.out 1).trans rfl, (blk_cell BK258.out 2).trans rfl, (blk_cell BK258.out 3).trans rfl, (blk_cell BK258.out 4).trans rfl⟩ (fun hHeld => ?_)
                          clear hK K
                          refine norm_ (a' := ?_) ?_ ?_
                          rotate_left
                          · show Act.put _ (some 10) _ = _
                            simp only [Act.put, List.setIfInBounds_toArray, List.set_cons_zero, List.set_cons_succ, i64_w, i32_w]
                            rfl
                          refine one_ (i := 3) (N := some 48) #[true, true, true, true, false, false, false, false, true, false, false] rfl rfl (one_of HT_.out (by kernel_rfl)) (by decide) (fun K hK => ?_)
                          refine goes_ Tryd.func26 (by kernel_rfl) rfl #[.agg #[.int .i64 ((rd_T36 l0 x14_1).f0), .int .i64 ((rd_T36 l0 x14_1).f1), .int .i64 ((rd_T36 l0 x14_1).f2), .int .i64 ((rd_T36 l0 x14_1).f3), .int .i64 ((rd_T36 l0 x14_1).f4)]] (by rfl) rfl rfl (by (try simp only [List.map_toArray, List.map_cons, List.map_nil]); first | done | rfl | (simp only [List.length_drop, List.length_take]; rfl)) ?_
                          with_reducible refine (fletchref21_told.calls k2 ((rd_T36 l0 x14_1).f0) ((rd_T36 l0 x14_1).f1) ((rd_T36 l0 x14_1).f2) ((rd_T36 l0 x14_1).f3) ((rd_T36 l0 x14_1).f4) t266 _ A24.out).mono ?_
                          rintro e w60 ⟨v267, rfl, ho0, hb⟩
                          refine ⟨_, rfl, ?_⟩
                          have n0_ := Aside0.mk (Kd.R_elder' (by (with_reducible repeat (first | apply Kd.R_alloc | apply Kd.R_drewN | apply Kd.R_drew)); exact HO_26.out) (Kd.R_base ho0) hb)
                          have n1_ := Aside0.mk (Kd.R_lower (Kd.R_new' ho0 (Kd.R_lt (by (with_reducible repeat (first | apply Kd.R_alloc | apply Kd.R_drewN | apply Kd.R_drew)); exact HO_26.out))) (below_size (by repeat (first | (with_reducible first | exact HB.out | apply below_alloc | apply pw_below_drewN | apply below_drew1 | refine below_set ?_ GE258.out | refine below_set ?_ GE275.out) | exact HB.out))))
                          have n2_ := Aside0.mk (blk_below (g := gb258) (o := .cells #[.int .i64 ((rd_T36 l0 x14_1).f0), .int .i64 ((rd_T36 l0 x14_1).f1), .int .i64 ((rd_T36 l0 x14_1).f2), .int .i64 ((rd_T36 l0 x14_1).f3), .int .i64 ((rd_T36 l0 x14_1).f4)] 36 (0, 0)) (by (with_reducible repeat (first | refine blk_drewN ?_ _ | refine blk_drew ?_ | refine blk_alloc ?_ _)); exact BK258.out) hb)
                          have n3_ := Aside0.mk (blk_below (g := gb275) (o := .cells #[.int .i64 0, .int .i64 0, .int .i64 0, .int .i64 0, .int .i64 0] 36 (0, 0)) (by (with_reducible repeat (first | refine blk_drewN ?_ _ | refine blk_drew ?_ | refine blk_alloc ?_ _)); exact BK275.out) hb)
                          have n4_ := Aside0.mk (below_step (by repeat (first | (with_reducible first | exact HB.out | apply below_alloc | apply pw_below_drewN | apply below_drew1 | refine below_set ?_ GE258.out | refine below_set ?_ GE275.out) | exact HB.out)) hb)
                          clear HO_26
                          clear BK258
                          clear BK275
                          clear HB
                          have HO_26 := n0_
                          have HO268 := n1_
                          have BK258 := n2_
                          have BK275 := n3_
                          have HB := n4_
                          clear n0_ n1_ n2_ n3_ n4_
                          (try clear hb)
                          (try clear hb2)
                          (try clear hk)
                          (try clear hi)
                          (try clear ho0)
                          obtain ⟨Ao61, co61, eo61⟩ := Kd.R_slice HO268.out
                          (first | subst eo61 | (injection eo61 with f1_ f2_ f3_; have f4_ := f1_.symm; have f5_ := f3_.symm; clear f1_ f2_ f3_; subst f4_; subst f5_))
                          refine hK.out _ _ ⟨(blk_cell BK258.out 0).trans rfl, (blk_cell BK258.out 1).trans rfl, (blk_cell BK258.out 2).trans rfl, (blk_cell BK258.out 3).trans rfl, (blk_cell BK258.out 4).trans rfl⟩ (fun hHeld => ?_)
                          clear hK K
                          refine norm_ (a' := ?_) ?_ ?_
                          rotate_left
                          · show Act.put _ (some 48) _ = _
                            simp only [Act.put, List.setIfInBounds_toArray, List.set_cons_zero, List.set_cons_succ, i64_w, i32_w]
                            rfl
                          refine one_ (i := 4) (N := some 49) #[true, true, true, true, true, false, false, false, true, false, false] rfl rfl (one_of HT_.out (by kernel_rfl)) (by decide) (fun K hK => ?_)
                          refine goes_ Tryd.func27 (by kernel_rfl) rfl #[.int .i64 ((rd_T36 l0 x14_1).f0), .slice Ao61 t266.length co61] (by rfl) rfl rfl (by (try simp only [List.map_toArray, List.map_cons, List.map_nil]); first | done | rfl | (simp only [List.length_drop, List.length_take]; rfl)) ?_
                          with_reducible refine (fletchref21_made.calls k2 ((rd_T36 l0 x14_1).f0) _ _ t266 t269 t270 t271 t272 t273 false _ ?side1 ?side2 A25.out).mono ?_
                          (case side1 => repeat (first | exact (Kd.R_reads' HO268.out).2.2 | (with_reducible refine Kd.C_alloc ?_ _) | (with_reducible refine Kd.C_drewN ?_ _) | (with_reducible refine Kd.C_drew ?_)))
                          (case side2 => exact (Kd.R_reads' HO268.out).2.1)
                          rintro e w62 ⟨rfl, hb⟩
                          refine ⟨_, rfl, ?_⟩
                          have n0_ := Aside0.mk (Kd.R_below (by (with_reducible repeat (first | apply Kd.R_alloc | apply Kd.R_drewN | apply Kd.R_drew)); exact HO_26.out) hb)
                          have n1_ := Aside0.mk (Kd.R_below (by (with_reducible repeat (first | apply Kd.R_alloc | apply Kd.R_drewN | apply Kd.R_drew)); exact HO268.out) hb)
                          have n2_ := Aside0.mk (blk_below (g := gb258) (o := .cells #[.int .i64 ((rd_T36 l0 x14_1).f0), .int .i64 ((rd_T36 l0 x14_1).f1), .int .i64 ((rd_T36 l0 x14_1).f2), .int .i64 ((rd_T36 l0 x14_1).f3), .int .i64 ((rd_T36 l0 x14_1).f4)] 36 (0, 0)) (by (with_reducible repeat (first | refine blk_drewN ?_ _ | refine blk_drew ?_ | refine blk_alloc ?_ _)); exact BK258.out) hb)
                          have n3_ := Aside0.mk (blk_below (g := gb275) (o := .cells #[.int .i64 0, .int .i64 0, .int .i64 0, .int .i64 0, .int .i64 0] 36 (0, 0)) (by (with_reducible repeat (first | refine blk_drewN ?_ _ | refine blk_drew ?_ | refine blk_alloc ?_ _)); exact BK275.out) hb)
                          have n4_ := Aside0.mk (below_step (by repeat (first | (with_reducible first | exact HB.out | apply below_alloc | apply pw_below_drewN | apply below_drew1 | refine below_set ?_ GE258.out | refine below_set ?_ GE275.out) | exact HB.out)) hb)
                          clear HO_26
                          clear HO268
                          clear BK258
                          clear BK275
                          clear HB
                          have HO_26 := n0_
                          have HO268 := n1_
                          have BK258 := n2_
                          have BK275 := n3_
                          have HB := n4_
                          clear n0_ n1_ n2_ n3_ n4_
                          (try clear hb)
                          (try clear hb2)
                          (try clear hk)
                          (try clear hi)
                          refine hK.out _ _ ⟨(blk_cell BK258.out 0).trans rfl, (blk_cell BK258.out 1).trans rfl, (blk_cell BK258.out 2).trans rfl, (blk_cell BK258.out 3).trans rfl, (blk_cell BK258.out 4).trans rfl⟩ (fun hHeld => ?_)
                          clear hK K
                          refine norm_ (a' := ?_) ?_ ?_
                          rotate_left
                          · show Act.put _ (some 49) _ = _
                            simp only [Act.put, List.setIfInBounds_toArray, List.set_cons_zero, List.set_cons_succ, i64_w, i32_w]
                            rfl
                          refine pure_ (i := 5) (N := some 44) (v := ?_) (a' := ?_) #[true, true, true, true, true, true, false, false, true, false, false] rfl rfl (any_of HT_.out (by kernel_rfl)) (fun _ _ _ h => h) (Or.inl ⟨by rfl, ?_⟩) ?_ ?_
                          rotate_left
                          · intro w'
                            go_simp
                            with_reducible rfl
                          rotate_left
                          · simp only [Act.put, List.setIfInBounds_toArray, List.set_cons_zero, List.set_cons_succ, i64_w, i32_w]
                            rfl
                          refine pure_ (i := 6) (N := some 50) (v := ?_) (a' := ?_) #[true, true, true, true, true, true, true, false, true, false, false] rfl rfl (any_of HT_.out (by kernel_rfl)) (fun _ _ _ h => h) (Or.inl ⟨by rfl, ?_⟩) ?_ ?_
                          rotate_left
                          · intro w'
                            go_simp
                            with_reducible rfl
                          rotate_left
                          · simp only [Act.put, List.setIfInBounds_toArray, List.set_cons_zero, List.set_cons_succ, i64_w, i32_w]
                            rfl
                          refine pure_ (i := 7) (N := some 51) (v := ?_) (a' := ?_) #[true, true, true, true, true, true, true, true, true, false, false] rfl rfl (any_of HT_.out (by kernel_rfl)) (fun _ _ _ h => h) (Or.inl ⟨by rfl, ?_⟩) ?_ ?_
                          rotate_left
                          · intro w'
                            go_simp
                            with_reducible rfl
                          rotate_left
                          · simp only [Act.put, List.setIfInBounds_toArray, List.set_cons_zero, List.set_cons_succ, i64_w, i32_w]
                            rfl
                          exact norm_ (by simp only [putAll, Act.put, List.setIfInBounds_toArray, List.set_cons_zero, List.set_cons_succ]) (hCont (.slice Ao61 t266.length co61, gb275) _ ⟨hHeld, (by (with_reducible repeat (first | apply Kd.R_alloc | apply Kd.R_drewN | apply Kd.R_drew)); exact Kd.R_mono HO268.out (fun _ hk => hk.2)), (by (with_reducible repeat (first | apply Kd.R_alloc | apply Kd.R_drewN | apply Kd.R_drew)); exact Kd.R_mono HO_26.out (fun _ hk => hk.2)), (by (with_reducible repeat (first | refine blk_drewN ?_ _ | refine blk_drew ?_ | refine blk_alloc ?_ _)); exact BK258.out), (by (with_reducible repeat (first | refine blk_drewN ?_ _ | refine blk_drew ?_ | refine blk_alloc ?_ _)); exact BK275.out), GW275.out, GE275.out, NB258_275.out, NB275_258.out, (by repeat (first | (with_reducible first | exact HB.out | apply below_alloc | apply pw_below_drewN | apply below_drew1 | refine below_set ?_ GE258.out | refine below_set ?_ GE275.out) | exact HB.out))⟩)
                      rintro ⟨v267, gb275⟩ w63 ⟨hS_, h0_, h1_, h2_, h3_, h4_, h5_, h6_, h7_, h8_⟩
                      have n0_ : Aside0 (Kd.R (Kd.int .i64) 3 w63 w.heap.size (fun k_ => some k_ ≠ (.slice Ao14 t261.length co14 : Value).ownBlock) v267 t266) := ⟨h0_⟩
                      have n1_ : Aside0 (Kd.R (Kd.int .i64) 3 w63 w.heap.size (fun k_ => some k_ ≠ (v267 : Value).ownBlock) (.slice Ao14 t261.length co14) t261) := ⟨h1_⟩
                      have n2_ : Aside0 (w63.heap[gb258]? = some (.cells #[.int .i64 ((rd_T36 l0 x14_1).f0), .int .i64 ((rd_T36 l0 x14_1).f1), .int .i64 ((rd_T36 l0 x14_1).f2), .int .i64 ((rd_T36 l0 x14_1).f3), .int .i64 ((rd_T36 l0 x14_1).f4)] 36 (0, 0))) := ⟨h2_⟩
                      have n3_ : Aside0 (w63.heap[gb275]? = some (.cells #[.int .i64 0, .int .i64 0, .int .i64 0, .int .i64 0, .int .i64 0] 36 (0, 0))) := ⟨h3_⟩
                      have n4_ : Aside0 (w.heap.size ≤ gb275) := ⟨h4_⟩
                      have n5_ : Aside0 (w.heap.size ≤ gb275) := ⟨h5_⟩
                      have n6_ : Aside0 (gb258 ≠ gb275) := ⟨h6_⟩
                      have n7_ : Aside0 (gb275 ≠ gb258) := ⟨h7_⟩
                      have n8_ : Aside0 (Below w.heap.size w w63) := ⟨h8_⟩
                      clear HO_26
                      clear BK258
                      clear HB
                      clear h0_ h1_ h2_ h3_ h4_ h5_ h6_ h7_ h8_
                      have HO268 := n0_
                      have HO_26 := n1_
                      have BK258 := n2_
                      have BK275 := n3_
                      have GW275 := n4_
                      have GE275 := n5_
                      have NB258_275 := n6_
                      have NB275_258 := n7_
                      have HB := n8_
                      clear n0_ n1_ n2_ n3_ n4_ n5_ n6_ n7_ n8_
                      have hHeld : w63.cell? ⟨gb258, 0, none⟩ = some (.int .i64 ((rd_T36 l0 x14_1).f0)) ∧ w63.cell? ⟨gb258, 1, none⟩ = some (.int .i64 ((rd_T36 l0 x14_1).f1)) ∧ w63.cell? ⟨gb258, 2, none⟩ = some (.int .i64 ((rd_T36 l0 x14_1).f2)) ∧ w63.cell? ⟨gb258, 3, none⟩ = some (.int .i64 ((rd_T36 l0 x14_1).f3)) ∧ w63.cell? ⟨gb258, 4, none⟩ = some (.int .i64 ((rd_T36 l0 x14_1).f4)) := hS_
                      refine norm_ (a' := ?_) ?_ ?_
                      rotate_left
                      · simp only [putAll, Act.put, List.setIfInBounds_toArray, List.set_cons_zero, List.set_cons_succ]
                        rfl
                      refine one_ (i := 9) (N := none) #[true, true, true, true, true, true, true, true, true, true, false] rfl rfl (one_of HT_.out (by kernel_rfl)) (by decide) (fun K hK => ?_)
                      have hs64 : w63.cell? ⟨gb275, 0, none⟩ = some (.int .i64 0) := (blk_cell BK275.out 0).trans rfl
                      have hfs64 := blk_frozen BK275.out 0
                      have hns64_0 := NB258_275.out
                      have hms64_0 := NB275_258.out
                      have hs65 : w63.cell? ⟨gb275, 1, none⟩ = some (.int .i64 0) := (blk_cell BK275.out 1).trans rfl
                      have hfs65 := blk_frozen BK275.out 1
                      have hns65_0 := NB258_275.out
                      have hms65_0 := NB275_258.out
                      have hs66 : w63.cell? ⟨gb275, 2, none⟩ = some (.int .i64 0) := (blk_cell BK275.out 2).trans rfl
                      have hfs66 := blk_frozen BK275.out 2
                      have hns66_0 := NB258_275.out
                      have hms66_0 := NB275_258.out
                      have hs67 : w63.cell? ⟨gb275, 3, none⟩ = some (.int .i64 0) := (blk_cell BK275.out 3).trans rfl
                      have hfs67 := blk_frozen BK275.out 3
                      have hns67_0 := NB258_275.out
                      have hms67_0 := NB275_258.out
                      have hs68 : w63.cell? ⟨gb275, 4, none⟩ = some (.int .i64 0) := (blk_cell BK275.out 4).trans rfl
                      have hfs68 := blk_frozen BK275.out 4
                      have hns68_0 := NB258_275.out
                      have hms68_0 := NB275_258.out
                      refine skip_ (w1 := ?_) (by rfl) rfl ?_ ?_
                      rotate_left
                      · go_simp
                        rfl
                      refine hK.out _ _ ⟨((cell_far (p := ⟨gb275, _, none⟩) NB258_275.out _).trans (((cell_far (p := ⟨gb275, _, none⟩) NB258_275.out _).trans (((cell_far (p := ⟨gb275, _, none⟩) NB258_275.out _).trans (((cell_far (p := ⟨gb275, _, none⟩) NB258_275.out _).trans (((cell_far (p := ⟨gb275, _, none⟩) NB258_275.out _).trans (hHeld.1)))))))))), ((cell_far (p := ⟨gb275, _, none⟩) NB258_275.out _).trans (((cell_far (p := ⟨gb275, _, none⟩) NB258_275.out _).trans (((cell_far (p := ⟨gb275, _, none⟩) NB258_275.out _).trans (((cell_far (p := ⟨gb275, _, none⟩) NB258_275.out _).trans (((cell_far (p := ⟨gb275, _, none⟩) NB258_275.out _).trans (hHeld.2.1)))))))))), ((cell_far (p := ⟨gb275, _, none⟩) NB258_275.out _).trans (((cell_far (p := ⟨gb275, _, none⟩) NB258_275.out _).trans (((cell_far (p := ⟨gb275, _, none⟩) NB258_275.out _).trans (((cell_far (p := ⟨gb275, _, none⟩) NB258_275.out _).trans (((cell_far (p := ⟨gb275, _, none⟩) NB258_275.out _).trans (hHeld.2.2.1)))))))))), ((cell_far (p := ⟨gb275, _, none⟩) NB258_275.out _).trans (((cell_far (p := ⟨gb275, _, none⟩) NB258_275.out _).trans (((cell_far (p := ⟨gb275, _, none⟩) NB258_275.out _).trans (((cell_far (p := ⟨gb275, _, none⟩) NB258_275.out _).trans (((cell_far (p := ⟨gb275, _, none⟩) NB258_275.out _).trans (hHeld.2.2.2.1)))))))))), ((cell_far (p := ⟨gb275, _, none⟩) NB258_275.out _).trans (((cell_far (p := ⟨gb275, _, none⟩) NB258_275.out _).trans (((cell_far (p := ⟨gb275, _, none⟩) NB258_275.out _).trans (((cell_far (p := ⟨gb275, _, none⟩) NB258_275.out _).trans (((cell_far (p := ⟨gb275, _, none⟩) NB258_275.out _).trans (hHeld.2.2.2.2))))))))))⟩ (fun hHeld => ?_)
                      clear hK K
                      refine pure_ (i := 10) (N := some 11) (v := ?_) (a' := ?_) #[true, true, true, true, true, true, true, true, true, true, true] rfl rfl (any_of HT_.out (by kernel_rfl)) (fun _ _ _ h => h) (Or.inl ⟨by rfl, ?_⟩) ?_ ?_
                      rotate_left
                      · intro w'
                        go_simp
                        with_reducible rfl
                      rotate_left
                      · simp only [Act.put, List.setIfInBounds_toArray, List.set_cons_zero, List.set_cons_succ, i64_w, i32_w]
                        rfl
                      refine done_ (done_of HT_.out (by kernel_rfl)) ?_
                      try go_wp2
                      go_ret2
                      exact ⟨by first | rfl | (simp [errW_none, errW_some] <;> rfl) | (simp [*, errW_none, errW_some] <;> rfl), by repeat (first | (with_reducible first | exact HB.out | apply below_alloc | apply pw_below_drewN | apply below_drew1 | refine below_set ?_ GE258.out | refine below_set ?_ GE275.out) | exact HB.out)⟩
          · rw [if_neg c4] at H
            exact absurd H (by simp)
        · rw [if_neg c3] at H
          exact absurd H (by simp)
      · rw [if_neg c2] at H
        have c2b0 : decide (x14_1 < (l0.length : Int)) = false := decide_eq_false c2
        clear c2
        simp only [Option.some.injEq, Prod.mk.injEq] at H
        obtain ⟨rfl, rfl⟩ := H
        go_wp2
        go_ret2
        exact ⟨by first | rfl | (simp [errW_none, errW_some] <;> rfl) | (simp [*, errW_none, errW_some] <;> rfl), by repeat (first | (with_reducible first | exact HB.out | apply below_alloc | apply pw_below_drewN | apply below_drew1) | exact HB.out)⟩

end Go.Proofs.YtpeokbbidipdkaaDoor.Q
