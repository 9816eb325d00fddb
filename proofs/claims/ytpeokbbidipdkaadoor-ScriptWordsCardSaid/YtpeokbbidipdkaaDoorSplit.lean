/-
  What strings.SplitSeq goes over, in plain words, and the walk of its iterator: the pieces between the separators, each handed to a round.
-/
import Derived.Test.YtpeokbbidipdkaaDoorRange
import Derived.Test.YtpeokbbidipdkaaDoorSpec
import Derived.Lib.IndexLaws
import Derived.Lib.Strings
namespace Go.Proofs.YtpeokbbidipdkaaDoor.Range
open Go Go.RowKit
set_option linter.unusedVariables false
attribute [local go_sem] Oper.semAt_some

open Spec (splitB)

theorem splitB_ne (c : UInt8) (l : List UInt8) : ∃ y ys, splitB c l = y :: ys := by
  cases l with
  | nil => exact ⟨[], [], rfl⟩
  | cons x r =>
    simp only [splitB]
    split
    · exact ⟨_, _, rfl⟩
    · split <;> exact ⟨_, _, rfl⟩

theorem splitB_none (c : UInt8) : ∀ l : List UInt8, Lib.indexByte l c = -1 → splitB c l = [l]
  | [], _ => rfl
  | x :: r, h => by
    simp only [Lib.indexByte] at h
    by_cases hx : (x == c) = true
    · rw [if_pos hx] at h; cases h
    · rw [if_neg hx] at h
      have hx' : ¬ x = c := fun e => hx (beq_iff_eq.2 e)
      have hr : Lib.indexByte r c = -1 := by
        by_cases hr : (Lib.indexByte r c == -1) = true
        · exact beq_iff_eq.1 hr
        · rw [if_neg hr] at h
          have := Lib.indexByte_ge r c
          have hne : Lib.indexByte r c ≠ -1 := fun e => hr (beq_iff_eq.2 e)
          omega
      simp only [splitB]
      rw [if_neg hx', splitB_none c r hr]

theorem splitB_some (c : UInt8) : ∀ (l : List UInt8) (i : Nat), Lib.indexByte l c = (i : Int) → i < l.length ∧ splitB c l = l.take i :: splitB c (l.drop (i + 1))
  | [], i, h => by simp only [Lib.indexByte] at h; omega
  | x :: r, i, h => by
    simp only [Lib.indexByte] at h
    by_cases hx : (x == c) = true
    · rw [if_pos hx] at h
      obtain rfl : i = 0 := by omega
      have hx' : x = c := beq_iff_eq.1 hx
      refine ⟨by simp, ?_⟩
      simp only [splitB]
      rw [if_pos hx']
      rfl
    · rw [if_neg hx] at h
      have hx' : ¬ x = c := fun e => hx (beq_iff_eq.2 e)
      by_cases hr : (Lib.indexByte r c == -1) = true
      · rw [if_pos hr] at h; omega
      · rw [if_neg hr] at h
        have hge := Lib.indexByte_ge r c
        have hne : Lib.indexByte r c ≠ -1 := fun e => hr (beq_iff_eq.2 e)
        obtain ⟨j, hj⟩ : ∃ j : Nat, Lib.indexByte r c = (j : Int) := ⟨(Lib.indexByte r c).toNat, by omega⟩
        obtain rfl : i = j + 1 := by omega
        obtain ⟨h1, h2⟩ := splitB_some c r j hj
        refine ⟨by simp; omega, ?_⟩
        simp only [splitB]
        rw [if_neg hx', h2]
        rfl

def dat (l : List ByteArray) : List (List UInt8) := l.map fun s => s.data.toList
theorem dat_append (l r : List ByteArray) : dat (l ++ r) = dat l ++ dat r := by simp [dat]

/-- The three boxes of an iterator: what is left, the separator, 0. -/
structure Boxes (h : Nat) (c : UInt8) (r : ByteArray) (W : World) : Prop where
  s : W.heap[h]? = some (.cells #[.string r] 9 (0, 0))
  sep : W.heap[h + 1]? = some (.cells #[.string ⟨#[c]⟩] 9 (0, 0))
  z : W.heap[h + 2]? = some (.cells #[.int .i64 0] 3 (0, 0))
theorem Boxes.lt {h : Nat} {c : UInt8} {r : ByteArray} {W : World} (b : Boxes h c r W) : h + 2 < W.heap.size := (Array.getElem?_eq_some_iff.1 b.z).1
theorem Boxes.hold {h : Nat} {c : UInt8} {r : ByteArray} {W W' : World} (b : Boxes h c r W) (k : Hold h (h + 3) W W') : Boxes h c r W' :=
  ⟨(k.same h (Nat.le_refl _) (by omega)).trans b.s, (k.same (h + 1) (by omega) (by omega)).trans b.sep, (k.same (h + 2) (by omega) (by omega)).trans b.z⟩
theorem Boxes.facts {h : Nat} {c : UInt8} {r : ByteArray} {W : World} (b : Boxes h c r W) :
    W.cell? ⟨h, 0, none⟩ = some (.string r) ∧ W.frozen? ⟨h, 0, none⟩ = false ∧ W.cell? ⟨h + 1, 0, none⟩ = some (.string ⟨#[c]⟩) ∧ W.cell? ⟨h + 2, 0, none⟩ = some (.int .i64 0) :=
  ⟨by simp [World.cell?, b.s], by simp [World.frozen?, b.s], by simp [World.cell?, b.sep], by simp [World.cell?, b.z]⟩
theorem Boxes.set {h : Nat} {c : UInt8} {r r' : ByteArray} {W : World} (b : Boxes h c r W) : Boxes h c r' (W.setCell ⟨h, 0, none⟩ (.string r')) := by
  refine ⟨?_, (Below.heap_setCell W ⟨h, 0, none⟩ _ (h + 1) (by show h + 1 ≠ h; omega)).trans b.sep, (Below.heap_setCell W ⟨h, 0, none⟩ _ (h + 2) (by show h + 2 ≠ h; omega)).trans b.z⟩
  simp [World.setCell, Array.getElem?_modify, b.s]
/-- How much is left. -/
def left (W : World) (h : Nat) : Nat := match W.cell? ⟨h, 0, none⟩ with | some (.string r) => r.size | _ => 0
theorem Boxes.left {h : Nat} {c : UInt8} {r : ByteArray} {W : World} (b : Boxes h c r W) : Range.left W h = r.size := by unfold Range.left; rw [b.facts.1]

set_option maxRecDepth 100000 in
set_option maxHeartbeats 2000000 in
theorem split_in (n : Nat) (hn : 1 ≤ n) (c : UInt8) (l h : Nat) (s : ByteArray) (hs : s.size ≤ 4611686018427387904) (J Jx : List ByteArray → World → Prop) (hJs : ∀ pre W v, J pre W → J pre (W.setCell ⟨h, 0, none⟩ v))
    (hY : ∀ pre x W, J pre W → dat (pre ++ [x]) <+: splitB c s.data.toList → YieldAt Fence.wide (n - 1) Tryd.prog l #[.string x] W fun e W' =>
      (e = .returned (.bool true) ∧ J (pre ++ [x]) W' ∧ Hold h (h + 3) W W') ∨ (e = .returned (.bool false) ∧ Jx (pre ++ [x]) W'))
    (W0 : World) (hb : Boxes h c s W0) (h0 : J [] W0) :
    CallsIn Fence.wide n Tryd.prog 35 #[.func (.yield l) #[] #[], .pointer (some ⟨h + 1, 0, none⟩), .pointer (some ⟨h, 0, none⟩), .pointer (some ⟨h + 2, 0, none⟩)] W0 fun e W' =>
      (∃ v, e = .returned v) ∧ ((∃ xs, dat xs = splitB c s.data.toList ∧ J xs W') ∨ (∃ pre, True ∧ Jx pre W')) := by
  refine callsIn_of_wp Tryd.func35 rfl trivial ?_ rfl
  simp only [Tryd.ntmps35, List.size_toArray, List.length_cons, List.length_nil, Nat.reduceAdd, Nat.reduceSub, Array.replicate_succ, Array.replicate_zero, List.push_toArray, List.append_toArray, List.nil_append, List.cons_append]
  obtain ⟨f1, f2, f3, f4⟩ := hb.facts
  have HB := Lib.hid hb
  have HS := Lib.hid hs
  have H0 := Lib.hid h0
  have HY := Lib.hid hY
  have HJs := Lib.hid hJs
  clear hb hs h0 hY hJs
  gi_wp2_with (refine ⟨trivial, ?_⟩; gi_at_call 37; refine (callsIn_wide.2 (Tryd.strings_Index_one s c _)).mono ?_; rintro e w' ⟨rfl, rfl⟩)
  gi_loopw [] (fun wr => ∃ pre r, Boxes h c r wr ∧ J pre wr ∧ dat pre ++ splitB c r.data.toList = splitB c s.data.toList ∧ r.size ≤ 4611686018427387904) (fun wr => Range.left wr h)
  case atStart => exact ⟨[], s, HB.out, H0.out, rfl, HS.out⟩
  case round =>
    obtain ⟨pre, r, hb, hJ, hsp, hr⟩ := hrel
    clear HB HS H0 f1 f2 f3 f4
    obtain ⟨f1, f2, f3, f4⟩ := hb.facts
    have hge := Lib.indexByte_ge r.data.toList c
    by_cases hneg : Lib.indexByte r.data.toList c = -1
    · have hlt : Lib.indexByte r.data.toList c < 0 := by omega
      have e1 := splitB_none c _ hneg
      rw [e1] at hsp
      have hd : dat (pre ++ [r]) = splitB c s.data.toList := by rw [dat_append]; exact hsp
      obtain ⟨fn, tmps, assign, body, hy, hR⟩ := HY.out pre r wr hJ (by rw [hd]; exact List.prefix_refl _)
      clear hneg e1 hsp HY
      have HD := Lib.hid hd
      clear hd
      gi_wp2_with (refine ⟨trivial, ?_⟩; gi_at_call 37; refine (callsIn_wide.2 (Tryd.strings_Index_one r c _)).mono ?_; rintro e w' ⟨rfl, rfl⟩)
      refine hR.mono ?_
      rintro e W' (⟨rfl, hJ', hk⟩ | ⟨rfl, hJx'⟩)
      · gi_wp2
        go_end0
        exact ⟨⟨_, rfl⟩, .inl ⟨_, HD.out, hJ'⟩⟩
      · gi_wp2
        go_end0
        exact ⟨⟨_, rfl⟩, .inr ⟨_, trivial, hJx'⟩⟩
    · obtain ⟨i, hi⟩ : ∃ i : Nat, Lib.indexByte r.data.toList c = (i : Int) := ⟨(Lib.indexByte r.data.toList c).toNat, by omega⟩
      have hlen : r.size = r.data.toList.length := Array.length_toList.symm
      obtain ⟨hil, hsplit⟩ := splitB_some c _ i hi
      have hi1 : i < r.size := by omega
      have HI := Lib.hid hi
      have HSP := Lib.hid hsplit
      have HSP0 := Lib.hid hsp
      have HL := Lib.hid hlen
      have hx1 : (r.extract 0 i).data.toList = r.data.toList.take i := by rw [Lib.extract_data]; simp
      have hx2 : (r.extract (i + 1) r.size).data.toList = r.data.toList.drop (i + 1) := by rw [Lib.extract_data, List.take_of_length_le (by rw [List.length_drop]; omega)]
      have hp : dat (pre ++ [r.extract 0 i]) ++ splitB c (r.data.toList.drop (i + 1)) = splitB c s.data.toList := by
        rw [dat_append, ← hsp, hsplit]
        simp [dat, hx1]
      obtain ⟨fn, tmps, assign, body, hy, hR⟩ := HY.out pre (r.extract 0 i) wr hJ ⟨_, hp⟩
      have hsz2 : (r.extract (i + 1) r.size).size = r.size - (i + 1) := by simp
      have HP := Lib.hid hp
      have HX := Lib.hid hx2
      have HZ := Lib.hid hsz2
      clear hneg hi hsplit hsp hlen hil hx1 hx2 hp hsz2
      gi_wp2_with (refine ⟨trivial, ?_⟩; gi_at_call 37; refine (callsIn_wide.2 (Tryd.strings_Index_one r c _)).mono ?_; rintro e w' ⟨rfl, rfl⟩; rw [HI.out])
      refine hR.mono ?_
      rintro e W' (⟨rfl, hJ', hk⟩ | ⟨rfl, hJx'⟩)
      · have hb' := hb.hold hk
        have hbl := hb.left
        clear f1 f2 f3 f4
        obtain ⟨f1, f2, f3, f4⟩ := hb'.facts
        clear hy hR
        gi_wp2
        go_roundw
        case rel => exact ⟨pre ++ [r.extract 0 i], r.extract (i + 1) r.size, hb'.set, HJs.out _ _ _ hJ', by rw [HX.out]; exact HP.out, by rw [HZ.out]; omega⟩
        case measure => rw [hb'.set.left, hbl, HZ.out]; omega
      · gi_wp2
        refine bodyPost_ret (results_none rfl _ _ _) rfl ?_
        exact ⟨⟨_, rfl⟩, .inr ⟨_, trivial, hJx'⟩⟩

/-- strings.SplitSeq: three boxes and a function value. -/
def boxed3 (w : World) (s : ByteArray) (c : UInt8) : World := ((w.alloc (.cells #[.string s] 9)).alloc (.cells #[.string ⟨#[c]⟩] 9)).alloc (.cells #[.int .i64 0] 3)
theorem boxed3_size (w : World) (s : ByteArray) (c : UInt8) : (boxed3 w s c).heap.size = w.heap.size + 3 := by simp [boxed3]
theorem boxed3_below (w : World) (s : ByteArray) (c : UInt8) : Below w.heap.size w (boxed3 w s c) := (((Below.refl _ w).alloc (Nat.le_refl _) _).alloc (by simp) _).alloc (by simp; omega) _
theorem boxed3_boxes (w : World) (s : ByteArray) (c : UInt8) : Boxes w.heap.size c s (boxed3 w s c) := by
  have h1 := World.alloc_heap_new w (.cells #[.string s] 9)
  have h2 := World.alloc_heap_new (w.alloc (.cells #[.string s] 9)) (.cells #[.string ⟨#[c]⟩] 9)
  have h3 := World.alloc_heap_new ((w.alloc (.cells #[.string s] 9)).alloc (.cells #[.string ⟨#[c]⟩] 9)) (.cells #[.int .i64 0] 3)
  simp only [World.size_alloc] at h2 h3
  refine ⟨?_, ?_, h3⟩
  · unfold boxed3
    rw [Below.heap_alloc _ _ _ (by simp; omega), Below.heap_alloc _ _ _ (by simp)]
    exact h1
  · unfold boxed3
    rw [Below.heap_alloc _ _ _ (by simp)]
    exact h2

set_option maxRecDepth 100000 in
theorem splitSeq_calls (s : ByteArray) (c : UInt8) (w : World) :
    Calls Tryd.prog 15 #[.string s, .string ⟨#[c]⟩] w fun e w' => e = .returned (.func (.func 35) #[] #[.pointer (some ⟨w.heap.size + 1, 0, none⟩), .pointer (some ⟨w.heap.size, 0, none⟩), .pointer (some ⟨w.heap.size + 2, 0, none⟩)]) ∧ w' = boxed3 w s c := by
  go_enter Tryd.func15, Tryd.ntmps15
  go_wp2
  go_ret
  exact ⟨rfl, rfl⟩

end Go.Proofs.YtpeokbbidipdkaaDoor.Range
