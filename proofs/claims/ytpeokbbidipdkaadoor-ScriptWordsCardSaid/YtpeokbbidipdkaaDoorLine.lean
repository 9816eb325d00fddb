/-
  script.line: walked once: it answers the step of a line's words.
-/
import Derived.Test.YtpeokbbidipdkaaDoorLinePure
import Derived.Deep.RegionWith
import Derived.Deep.CutBlock
namespace Go.Proofs.YtpeokbbidipdkaaDoor.Q
open Go.RowKit Go.Proofs.YtpeokbbidipdkaaDoorW.PrintWords Go.Proofs.YtpeokbbidipdkaaDoorW.PrintLast Go.Proofs.YtpeokbbidipdkaaDoorW.PrintMore
set_option linter.unusedVariables false
set_option linter.unusedSimpArgs false

def tup (s : Option Spec.St) : Int × Int × Int × Int × Int × Bool :=
  match s with
  | some s => (s.k, s.n, s.o, s.i, s.j, true)
  | none => (0, 0, 0, 0, 0, false)
def script_line.f (l0 : List ByteArray) : Option (Int × Int × Int × Int × Int × Bool) :=
  if l0 ≠ [] ∧ (∀ s ∈ l0, s.size ≤ 4611686018427387904) ∧ l0.length ≤ 1000000000 then some (tup (Spec.lineOf (dat l0))) else none

set_option maxRecDepth 100000 in
set_option maxHeartbeats 1000000 in
/-- script.at: the address of a field. -/
theorem script_at.calls (b : Nat) (f : Int) (w : World) :
    Calls Tryd.prog 21 #[.pointer (some ⟨b, 0, none⟩), .int .i64 f] w fun e w' => e = .returned (.pointer (some ⟨b, (if f = 0 then 1 else if f = 1 then 2 else if f = 2 then 3 else 4), none⟩)) ∧ w' = w := by
  have hu36 := Tryd.underlying36
  by_cases h0 : f = 0
  · subst h0
    go_enter Tryd.func21, Tryd.ntmps21
    go_wp2
    go_ret
    exact ⟨rfl, rfl⟩
  have b0 : (f == 0) = false := beq_eq_false_iff_ne.mpr h0
  by_cases h1 : f = 1
  · subst h1
    go_enter Tryd.func21, Tryd.ntmps21
    go_wp2
    go_ret
    exact ⟨rfl, rfl⟩
  have b1 : (f == 1) = false := beq_eq_false_iff_ne.mpr h1
  by_cases h2 : f = 2
  · subst h2
    go_enter Tryd.func21, Tryd.ntmps21
    go_wp2
    go_ret
    exact ⟨rfl, rfl⟩
  have b2 : (f == 2) = false := beq_eq_false_iff_ne.mpr h2
  rw [if_neg h0, if_neg h1, if_neg h2]
  clear h0 h1 h2
  go_enter Tryd.func21, Tryd.ntmps21
  go_wp2
  go_ret
  exact ⟨rfl, rfl⟩

theorem idx_bounds (x : List UInt8) (l : List (List UInt8)) : ∀ i : Int, 0 ≤ i → -1 ≤ Spec.idxFrom x i l ∧ Spec.idxFrom x i l < i + l.length := by
  induction l with
  | nil => intro i h; simp only [Spec.idxFrom, List.length_nil]; omega
  | cons y ys ih =>
    intro i h
    simp only [Spec.idxFrom, List.length_cons]
    split
    · omega
    · have := ih (i + 1) (by omega)
      omega
theorem kindOf_bounds (x : List UInt8) : 0 ≤ Spec.kindOf x ∧ Spec.kindOf x ≤ 11 := by
  have := idx_bounds x Spec.names 0 (by omega)
  have hl : Spec.names.length = 11 := rfl
  rw [hl] at this
  unfold Spec.kindOf
  omega

theorem fieldsOf_len (k : Int) : (Spec.fieldsOf k).length ≤ 3 := by
  unfold Spec.fieldsOf
  split
  · decide
  split
  · decide
  split
  · decide
  split
  · decide
  · decide
theorem below_own {B j : Nat} {a w : World} {u : Value} (h : Below B a w) : Below B a (w.setCell ⟨B, j, none⟩ u) := h.setCell (p := ⟨B, j, none⟩) (Nat.le_refl _) u

/-! ### a struct of five numbers in a block of its own -/
def IsSt (w : World) (b : Nat) (s : Spec.St) : Prop := w.heap[b]? = some (.cells #[.int .i64 s.k, .int .i64 s.n, .int .i64 s.o, .int .i64 s.i, .int .i64 s.j] 36 (0, 0))
theorem IsSt.lt {w : World} {b : Nat} {s : Spec.St} (h : IsSt w b s) : b < w.heap.size := (Array.getElem?_eq_some_iff.1 h).1
theorem IsSt.below {w w' : World} {b : Nat} {s : Spec.St} (h : IsSt w b s) (hb : Below w.heap.size w w') : IsSt w' b s := (hb.block b h.lt).trans h
theorem IsSt.cell {w : World} {b : Nat} {s : Spec.St} (h : IsSt w b s) (j : Nat) : w.cell? ⟨b, j, none⟩ = (#[Value.int .i64 s.k, .int .i64 s.n, .int .i64 s.o, .int .i64 s.i, .int .i64 s.j])[j]? := by
  unfold IsSt at h
  simp [World.cell?, h]
theorem IsSt.frozen {w : World} {b : Nat} {s : Spec.St} (h : IsSt w b s) (j : Nat) : w.frozen? ⟨b, j, none⟩ = false := by
  unfold IsSt at h
  simp [World.frozen?, h]
theorem IsSt.facts {w : World} {b : Nat} {s : Spec.St} (h : IsSt w b s) :
    w.cell? ⟨b, 0, none⟩ = some (.int .i64 s.k) ∧ w.cell? ⟨b, 1, none⟩ = some (.int .i64 s.n) ∧ w.cell? ⟨b, 2, none⟩ = some (.int .i64 s.o) ∧ w.cell? ⟨b, 3, none⟩ = some (.int .i64 s.i) ∧ w.cell? ⟨b, 4, none⟩ = some (.int .i64 s.j) ∧
    w.frozen? ⟨b, 0, none⟩ = false ∧ w.frozen? ⟨b, 1, none⟩ = false ∧ w.frozen? ⟨b, 2, none⟩ = false ∧ w.frozen? ⟨b, 3, none⟩ = false ∧ w.frozen? ⟨b, 4, none⟩ = false :=
  ⟨h.cell 0, h.cell 1, h.cell 2, h.cell 3, h.cell 4, h.frozen 0, h.frozen 1, h.frozen 2, h.frozen 3, h.frozen 4⟩
def offOf (f : Int) : Nat := if f = 0 then 1 else if f = 1 then 2 else if f = 2 then 3 else 4
theorem offOf_def (f : Int) : offOf f = if f = 0 then 1 else if f = 1 then 2 else if f = 2 then 3 else 4 := rfl
theorem IsSt.cell_off {w : World} {b : Nat} {s : Spec.St} (h : IsSt w b s) (f : Int) : w.cell? ⟨b, offOf f, none⟩ = some (.int .i64 (Spec.get s f)) := by
  unfold offOf Spec.get
  by_cases h0 : f = 0
  · simp only [h0, if_true]; exact h.cell 1
  by_cases h1 : f = 1
  · simp only [h1, if_true, if_neg (show ¬ (1 : Int) = 0 by decide)]; exact h.cell 2
  by_cases h2 : f = 2
  · simp only [h2, if_true, if_neg (show ¬ (2 : Int) = 0 by decide), if_neg (show ¬ (2 : Int) = 1 by decide)]; exact h.cell 3
  simp only [if_neg h0, if_neg h1, if_neg h2]; exact h.cell 4
theorem IsSt.store {w : World} {b : Nat} {s : Spec.St} (h : IsSt w b s) (f x : Int) : IsSt (w.setCell ⟨b, offOf f, none⟩ (.int .i64 x)) b (Spec.put s f x) := by
  have hlt := h.lt
  unfold IsSt at h ⊢
  have hm : ∀ j, (w.setCell ⟨b, j, none⟩ (.int .i64 x)).heap[b]? = some (.cells ((#[Value.int .i64 s.k, .int .i64 s.n, .int .i64 s.o, .int .i64 s.i, .int .i64 s.j]).setIfInBounds j (.int .i64 x)) 36 (0, 0)) := by
    intro j
    simp [World.setCell, Array.getElem?_modify, h]
  unfold offOf Spec.put
  by_cases h0 : f = 0
  · simp only [h0, if_true, hm]; rfl
  by_cases h1 : f = 1
  · simp only [h1, if_true, hm, if_neg (show ¬ (1 : Int) = 0 by decide)]; rfl
  by_cases h2 : f = 2
  · simp only [h2, if_true, hm, if_neg (show ¬ (2 : Int) = 0 by decide), if_neg (show ¬ (2 : Int) = 1 by decide)]; rfl
  simp only [if_neg h0, if_neg h1, if_neg h2, hm]; rfl
theorem IsSt.far {w : World} {b g j : Nat} {v : Value} {s : Spec.St} (h : IsSt w b s) (hne : b ≠ g) : IsSt (w.setCell ⟨g, j, none⟩ v) b s := (Below.heap_setCell w ⟨g, j, none⟩ v b hne).trans h

set_option maxRecDepth 100000 in
set_option maxHeartbeats 2000000 in
theorem script_line.calls (A0 : Option Addr) (c0 : Nat) (l0 : List ByteArray) (r1 r2 r3 r4 r5 : Int) (r6 : Bool) (w : World) (hr0 : Kd.C Kd.string w A0 l0.length l0) (hc0 : l0.length ≤ c0) (h : script_line.f l0 = some (r1, r2, r3, r4, r5, r6)) :
    Calls Tryd.prog 16 #[.slice A0 l0.length c0] w fun e w' => e = .returned (.tuple #[.agg #[.int .i64 r1, .int .i64 r2, .int .i64 r3, .int .i64 r4, .int .i64 r5], .bool r6]) ∧ Below w.heap.size w w' := by
  have hu36 := Tryd.underlying36
  have HR0 := Aside0.mk hr0
  have HC0 := Aside0.mk hc0
  clear hr0 hc0
  unfold script_line.f at h
  by_cases hcond : l0 ≠ [] ∧ (∀ s ∈ l0, s.size ≤ 4611686018427387904) ∧ l0.length ≤ 1000000000
  case neg => rw [if_neg hcond] at h; cases h
  rw [if_pos hcond] at h
  obtain ⟨hne, hsz, hlen⟩ := hcond
  have HSZ := Aside0.mk hsz
  clear hsz
  have HT := Aside0.mk (Option.some.inj h)
  clear h
  obtain ⟨x, ys, rfl⟩ : ∃ x ys, l0 = x :: ys := by cases l0 with | nil => exact absurd rfl hne | cons x ys => exact ⟨x, ys, rfl⟩
  clear hne
  obtain ⟨ad, rfl, hx0⟩ : ∃ ad, A0 = some ad ∧ w.cell? ad = some (.string x) := by
    obtain ⟨ad, c, e, _, hK, hc⟩ := Kd.C_get HR0.out ByteArray.empty 0 (by omega) (by simp)
    have hK' : c = [.string x] := hK
    subst hK'
    exact ⟨ad, e, by simpa [Addr.add_zero'] using hc 0 _ rfl⟩
  have hxl := World.block_lt_of_cell? w _ hx0
  have hkb := kindOf_bounds x.data.toList
  have HKW : Aside0 (IntKind.i64.wrap (Spec.kindOf x.data.toList) = Spec.kindOf x.data.toList) := ⟨by rw [IntKind.wrap_i64]; omega⟩
  have HKB := Aside0.mk hkb
  clear hkb
  have HT2 : Aside0 (tup (if Spec.kindOf x.data.toList = 0 ∨ ys.length ≠ (Spec.fieldsOf (Spec.kindOf x.data.toList)).length then none else Spec.fill (Spec.fieldsOf (Spec.kindOf x.data.toList)) (dat ys) ⟨Spec.kindOf x.data.toList, 0, 0, 0, 0⟩) = (r1, r2, r3, r4, r5, r6)) := by
    have := HT.out
    have hl : (dat ys).length = ys.length := by simp [dat]
    rw [← hl]
    exact ⟨this⟩
  clear HT
  obtain ⟨n, hn⟩ : ∃ n, n = (x :: ys).length := ⟨_, rfl⟩
  have hn1 : 0 < n := by rw [hn]; simp
  have hn2 : n ≤ 1000000000 := by rw [hn]; exact hlen
  have hn3 : decide ((0 : Int) < (n : Int)) = true := by simpa using hn1
  rw [← hn] at HR0 HC0 ⊢
  have HN := Aside0.mk hn
  clear hn hlen
  have HX0 := Aside0.mk hx0
  clear hx0
  go_enter Tryd.func16, Tryd.ntmps16
  go_upto_region 1 with fail
  obtain ⟨W, hW⟩ : ∃ W, W = w.alloc (.cells #[.int .i64 0, .int .i64 0, .int .i64 0, .int .i64 0, .int .i64 0] 36) := ⟨_, rfl⟩
  rw [← hW]
  have hbW : Below w.heap.size w W := by rw [hW]; exact (Below.refl _ _).alloc (Nat.le_refl _) _
  have hst0 : IsSt W w.heap.size ⟨0, 0, 0, 0, 0⟩ := by rw [hW]; exact blk_new _ _
  have hWs : w.heap.size < W.heap.size := by rw [hW]; simp
  clear hW
  have hxW : W.cell? ad = some (.string x) := (hbW.cell hxl).trans HX0.out
  have hxlW : ad.block < W.heap.size := Nat.lt_trans hxl hWs
  have HBW := Aside0.mk hbW
  have HST := Aside0.mk hst0
  clear hbW hst0
  go_cut [4] (fun s4 wx => s4 = .int .i64 (Spec.kindOf x.data.toList) ∧ Below W.heap.size W wx)
  case first =>
    go_region_with (first
      | (go_at_call 19; refine (script_words.calls wordsB _ words_f).mono ?_; rintro e w1 ⟨v, rfl, hv, hb1⟩; obtain ⟨Aw, cw, rfl, hlw, hCw⟩ := Kd.R_reads hv; have HCw := Aside0.mk hCw; have hx1 := (hb1.cell (p := ad) hxlW).trans hxW; clear hv hCw)
      | (go_at_call 29; refine (slices_Index_string_string.calls 12 _ _ wordsB x _ _ HCw.out hlw (idx_f x)).mono ?_; rintro e w2 ⟨rfl, ⟨nd, rfl⟩⟩))
    all_goals (go_wp2_with fail; go_meet)
    all_goals exact ⟨by rw [HKW.out], pw_below_drewN (((Below.refl _ W).drew).trans hb1) _⟩
  case rest =>
    obtain ⟨rfl, hbc⟩ := hcut
    have hst1 := HST.out.below hbc
    have hbc1 : Below w.heap.size w wc := HBW.out.trans (hbc.mono (Nat.le_of_lt hWs))
    have hwc : W.heap.size ≤ wc.heap.size := hbc.size
    obtain ⟨z0, z1, z2, z3, z4, f0, f1, f2, f3, f4⟩ := hst1.facts
    clear hxW hxlW
    obtain ⟨k, hk⟩ : ∃ k, k = Spec.kindOf x.data.toList := ⟨_, rfl⟩
    rw [← hk] at HT2 HKB ⊢
    clear hk HKW
    by_cases hk0 : k = 0
    · have b0 : (k == 0) = true := beq_iff_eq.mpr hk0
      have HTT := HT2.out
      rw [if_pos (Or.inl hk0)] at HTT
      clear HT2 hk0
      obtain ⟨rfl, rfl, rfl, rfl, rfl, rfl⟩ : r1 = 0 ∧ r2 = 0 ∧ r3 = 0 ∧ r4 = 0 ∧ r5 = 0 ∧ r6 = false := by simpa [tup, eq_comm] using HTT
      clear HTT
      go_wp2_with fail
      refine bodyPost_ret (v := .tuple #[.agg #[.int .i64 0, .int .i64 0, .int .i64 0, .int .i64 0, .int .i64 0], .bool false]) (by simp [results, Tryd.results16, go_sem, z0, z1, z2, z3, z4]) rfl ⟨rfl, ?_⟩
      repeat (first | exact hbc1 | apply below_own)
    · have b0 : (k == 0) = false := beq_eq_false_iff_ne.mpr hk0
      obtain ⟨fs, hfs⟩ : ∃ fs, fs = Spec.fieldsOf k := ⟨_, rfl⟩
      have hff := fields_f k
      rw [← hfs] at HT2 hff
      have hf3 : fs.length ≤ 3 := by rw [hfs]; exact fieldsOf_len k
      have HFF := Aside0.mk hff
      clear hff hfs
      by_cases hl : ys.length = fs.length
      · have HTT : Aside0 (tup (Spec.fill fs (dat ys) ⟨k, 0, 0, 0, 0⟩) = (r1, r2, r3, r4, r5, r6)) := by
          have := HT2.out
          rw [if_neg (by rintro (h | h); exact hk0 h; exact h hl)] at this
          exact ⟨this⟩
        have hn' : n = 1 + fs.length := by have := HN.out; simp at this; omega
        have b1 : ((n : Int) == (1 + (fs.length : Int))) = true := beq_iff_eq.mpr (by omega)
        have b2 : ((n : Int) != (1 + (fs.length : Int))) = false := bne_eq_false_iff_eq.mpr (by omega)
        have HN' := Aside0.mk hn'
        have HL := Aside0.mk hl
        clear HT2 hl hn' hk0
        go_upto_region 4 with (go_at_call 20; refine (script_fields.calls 4 k _ _ HFF.out).mono ?_; rintro e w2 ⟨v, rfl, hv, hb2⟩; obtain ⟨Af, cf, rfl, hlf, hCf⟩ := Kd.R_reads hv; have hst2 := hst1.below hb2; have hbw2 : Below w.heap.size w w2 := hbc1.trans (hb2.mono (by omega)); clear z0 z1 z2 z3 z4 f0 f1 f2 f3 f4 hv hCf)
        go_upto_region 5 with fail
        obtain ⟨W4, hW4⟩ : ∃ W4, W4 = w2.alloc (.cells #[.int .i64 k, .int .i64 0, .int .i64 0, .int .i64 0, .int .i64 0] 36) := ⟨_, rfl⟩
        rw [← hW4]
        have hs4 : W4.heap.size = w2.heap.size + 1 := by rw [hW4]; simp
        have hb4 : Below w2.heap.size w2 W4 := by rw [hW4]; exact (Below.refl _ _).alloc (Nat.le_refl _) _
        have hst4 : IsSt W4 w2.heap.size ⟨k, 0, 0, 0, 0⟩ := by rw [hW4]; exact blk_new _ _
        have hst5 : IsSt W4 w.heap.size ⟨0, 0, 0, 0, 0⟩ := hst2.below hb4
        have hbw4 : Below w.heap.size w W4 := hbw2.trans (hb4.mono (by have := hst2.lt; omega))
        clear hW4 hb4
        have hne : w.heap.size ≠ w2.heap.size := Nat.ne_of_lt hst2.lt
        have hbs4 : w2.heap.size < W4.heap.size := by omega
        have HS2 := Aside0.mk hst2.lt
        have hws4 : w.heap.size < W4.heap.size := Nat.lt_trans hst2.lt hbs4
        have HS4 := Aside0.mk hs4
        clear hs4
        go_wp2_with (go_at_call 20; refine (script_fields.calls 4 k _ _ HFF.out).mono ?_; rintro e w5 ⟨v, rfl, hv, hb5⟩; obtain ⟨Ag, cg, rfl, hlg, hCg⟩ := Kd.R_reads hv; clear hCg)
        have hv5 : Kd.R (Kd.int .i64) 3 w5 W4.heap.size (fun q => W4.heap.size ≤ q) (.slice Ag fs.length cg) fs := Kd.R_mono (Kd.R_bound hv) (fun q hq => hq.2.1)
        have HST5 := Aside0.mk (hst4.below hb5)
        have HSR5 := Aside0.mk (hst5.below hb5)
        have HBW5 := Aside0.mk (hbw4.trans (hb5.mono (Nat.le_of_lt hws4)))
        have HV5 := Aside0.mk hv5
        have HSZ5 := Aside0.mk hb5.size
        clear hv hv5 hst4 hst5 hbw4 hb5 hst2 hbw2 hb2 hst1 hbc1 hwc hbc HBW HST HFF hlf
        go_loopw [33] (fun i wr => ∃ (j : Nat) (s : Spec.St), i = .int .i64 j ∧ j ≤ fs.length ∧ IsSt wr w2.heap.size s ∧ IsSt wr w.heap.size ⟨0, 0, 0, 0, 0⟩ ∧ Aside0 (tup (Spec.fill (fs.drop j) ((dat ys).drop j) s) = (r1, r2, r3, r4, r5, r6)) ∧ Below w.heap.size w wr ∧
          Kd.R (Kd.int .i64) 3 wr W4.heap.size (fun q => W4.heap.size ≤ q) (.slice Ag fs.length cg) fs ∧ W4.heap.size ≤ wr.heap.size) (fun i _ => fs.length - (intOf i).toNat)
        case atStart => exact ⟨0, ⟨k, 0, 0, 0, 0⟩, rfl, Nat.zero_le _, HST5.out, HSR5.out, HTT, HBW5.out, HV5.out, HSZ5.out⟩
        case round =>
          obtain ⟨j, s, rfl, hj, hs, hsr, HF, hbr, hvr, hszr⟩ := hrel
          clear HST5 HSR5 HBW5 HV5 HSZ5 HTT
          by_cases hlt : j < fs.length
          · obtain ⟨A1, c1, e1, _, hC1⟩ := Kd.R_reads hvr
            obtain ⟨rfl, rfl⟩ : Ag = A1 ∧ cg = c1 := by injection e1 with e1 _ e2; exact ⟨e1, e2⟩
            obtain ⟨ag, eg, hcg⟩ := Kd.at_int hC1 (j : Int) (by omega) (by omega)
            subst eg
            rw [Int.toNat_natCast] at hcg
            obtain ⟨f, hf⟩ : ∃ f, f = rd fs (j : Int) := ⟨_, rfl⟩
            rw [← hf] at hcg
            obtain ⟨ad', ea, hca⟩ := Kd.at_string (Kd.C_below HR0.out hbr) (1 + (j : Int)) (by omega) (by have := HN'.out; omega)
            obtain rfl := Option.some.inj ea
            obtain ⟨y, hy⟩ : ∃ y, y = rdOf ByteArray.empty (x :: ys) (1 + (j : Int)) := ⟨_, rfl⟩
            rw [← hy] at hca
            rw [show (1 + (j : Int)).toNat = 1 + j by omega] at hca
            have hj1 : decide ((j : Int) < (fs.length : Int)) = true := by simpa using hlt
            have hj3 : 0 ≤ 1 + (j : Int) := by omega
            have hj4 : 1 + (j : Int) < (n : Int) := by have := HN'.out; omega
            have hjy : j < ys.length := by have := HL.out; omega
            have hfe : fs.drop j = f :: fs.drop (j + 1) := by
              rw [List.drop_eq_getElem_cons hlt, hf]
              simp [rd, List.getD_eq_getElem?_getD, hlt]
            have hye : ys.drop j = y :: ys.drop (j + 1) := by
              rw [List.drop_eq_getElem_cons hjy, hy]
              have : (1 + (j : Int)).toNat = j + 1 := by omega
              simp [rdOf, this, List.getD_eq_getElem?_getD, hjy]
            have hde : (dat ys).drop j = y.data.toList :: (dat ys).drop (j + 1) := by
              unfold dat
              rw [← List.map_drop, hye, List.map_cons, List.map_drop]
            have hysz : y.size ≤ 4611686018427387904 := by
              refine HSZ.out y (List.mem_cons_of_mem _ ?_)
              have : y ∈ ys.drop j := by rw [hye]; simp
              exact List.mem_of_mem_drop this
            have hnum := number_f y hysz
            have HFF := HF.out
            rw [hfe, hde] at HFF
            simp only [Spec.fill] at HFF
            clear hfe hye hde hysz hy hf e1 hC1 HF hjy
            obtain ⟨z0, z1, z2, z3, z4, g0, g1, g2, g3, g4⟩ := hs.facts
            obtain ⟨y0, y1, y2, y3, y4, g5, g6, g7, g8, g9⟩ := hsr.facts
            cases hno : Spec.numOf y.data.toList with
            | none =>
              rw [hno] at HFF
              unfold numAns at hnum
              rw [hno] at hnum
              have HNUM := Aside0.mk hnum
              obtain ⟨rfl, rfl, rfl, rfl, rfl, rfl⟩ : r1 = 0 ∧ r2 = 0 ∧ r3 = 0 ∧ r4 = 0 ∧ r5 = 0 ∧ r6 = false := by simpa [tup, eq_comm] using HFF
              clear hno HFF hnum
              go_wp2_with (go_at_call 30; refine (script_number.calls y 0 false _ HNUM.out).mono ?_; rintro e w6 ⟨rfl, hb6⟩; have hsr6 := hsr.below hb6; clear z0 z1 z2 z3 z4 g0 g1 g2 g3 g4 y0 y1 y2 y3 y4 g5 g6 g7 g8 g9; obtain ⟨y0, y1, y2, y3, y4, g5, g6, g7, g8, g9⟩ := hsr6.facts)
              have hbr6 : Below w.heap.size w w6 := hbr.trans (hb6.mono (by omega))
              refine bodyPost_ret (v := .tuple #[.agg #[.int .i64 0, .int .i64 0, .int .i64 0, .int .i64 0, .int .i64 0], .bool false]) (by simp [results, Tryd.results16, go_sem, y0, y1, y2, y3, y4]) rfl ⟨rfl, ?_⟩
              repeat (first | exact hbr6 | apply below_own)
            | some v =>
              rw [hno] at HFF
              unfold numAns at hnum
              rw [hno] at hnum
              have HNUM := Aside0.mk hnum
              have HF := Aside0.mk HFF
              clear hno HFF hnum
              go_wp2_with (first
                | (go_at_call 30; refine (script_number.calls y v true _ HNUM.out).mono ?_; rintro e w6 ⟨rfl, hb6⟩; have hs6 := hs.below hb6; have hsr6 := hsr.below hb6; have HVR6 := Aside0.mk (Kd.R_below hvr hb6); have hbr6 : Below w.heap.size w w6 := hbr.trans (hb6.mono (by omega)); have hsz6 := hb6.size; clear z0 z1 z2 z3 z4 g0 g1 g2 g3 g4 y0 y1 y2 y3 y4 g5 g6 g7 g8 g9; have hoc := hs6.cell_off f; have hof := hs6.frozen (offOf f))
                | (go_at_call 21; refine (script_at.calls w2.heap.size f _).mono ?_; rintro e w7 ⟨rfl, rfl⟩; rw [← offOf_def]))
              go_roundw
              case rel =>
                exact ⟨j + 1, Spec.put s f v, by go_num, by omega, hs6.store f v, hsr6.far hne, HF, hbr6.setCell (p := ⟨w2.heap.size, offOf f, none⟩) (Nat.le_of_lt HS2.out) _, Kd.R_far (p := ⟨w2.heap.size, offOf f, none⟩) HVR6.out (fun q hq => by show q ≠ w2.heap.size; omega) _, by simp [World.setCell]; omega⟩
              case measure => simp [intOf]; omega
          · obtain rfl : j = fs.length := by omega
            have HFF := HF.out
            rw [List.drop_of_length_le (Nat.le_refl _)] at HFF
            simp only [Spec.fill, tup] at HFF
            obtain ⟨z0, z1, z2, z3, z4, g0, g1, g2, g3, g4⟩ := hs.facts
            obtain ⟨y0, y1, y2, y3, y4, g5, g6, g7, g8, g9⟩ := hsr.facts
            clear HF
            obtain ⟨rfl, rfl, rfl, rfl, rfl, rfl⟩ : r1 = s.k ∧ r2 = s.n ∧ r3 = s.o ∧ r4 = s.i ∧ r5 = s.j ∧ r6 = true := by
              simp only [Prod.mk.injEq] at HFF
              obtain ⟨h1, h2, h3, h4, h5, h6⟩ := HFF
              exact ⟨h1.symm, h2.symm, h3.symm, h4.symm, h5.symm, h6.symm⟩
            clear HFF
            go_wp2_with fail
            refine bodyPost_ret (v := .tuple #[.agg #[.int .i64 s.k, .int .i64 s.n, .int .i64 s.o, .int .i64 s.i, .int .i64 s.j], .bool true]) (by simp [results, Tryd.results16, go_sem, y0, y1, y2, y3, y4]) rfl ⟨rfl, ?_⟩
            repeat (first | exact hbr | apply below_own)
      · have HTT := HT2.out
        rw [if_pos (Or.inr hl)] at HTT
        obtain ⟨rfl, rfl, rfl, rfl, rfl, rfl⟩ : r1 = 0 ∧ r2 = 0 ∧ r3 = 0 ∧ r4 = 0 ∧ r5 = 0 ∧ r6 = false := by simpa [tup, eq_comm] using HTT
        have hn' : n ≠ 1 + fs.length := by have := HN.out; simp at this; omega
        have b1 : ((n : Int) == (1 + (fs.length : Int))) = false := beq_eq_false_iff_ne.mpr (by omega)
        have b2 : ((n : Int) != (1 + (fs.length : Int))) = true := bne_iff_ne.mpr (by omega)
        clear HTT HT2 hl hn' hk0
        go_wp2_with (go_at_call 20; refine (script_fields.calls 4 k _ _ HFF.out).mono ?_; rintro e w2 ⟨v, rfl, hv, hb2⟩; obtain ⟨Af, cf, rfl, hlf, hCf⟩ := Kd.R_reads hv; have HCf := Aside0.mk hCf; have hst2 := hst1.below hb2; have hbw2 : Below w.heap.size w w2 := hbc1.trans (hb2.mono (by omega)); clear z0 z1 z2 z3 z4 f0 f1 f2 f3 f4; obtain ⟨z0, z1, z2, z3, z4, f0, f1, f2, f3, f4⟩ := hst2.facts; clear hv hCf)
        refine bodyPost_ret (v := .tuple #[.agg #[.int .i64 0, .int .i64 0, .int .i64 0, .int .i64 0, .int .i64 0], .bool false]) (by simp [results, Tryd.results16, go_sem, z0, z1, z2, z3, z4]) rfl ⟨rfl, ?_⟩
        repeat (first | exact hbw2 | apply below_own)

end Go.Proofs.YtpeokbbidipdkaaDoor.Q
