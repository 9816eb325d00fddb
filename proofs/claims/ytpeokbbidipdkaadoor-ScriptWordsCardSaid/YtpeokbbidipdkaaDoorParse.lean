/-
  script.Parse: walked once: it answers as the plain words say.
-/
import Derived.Test.YtpeokbbidipdkaaDoorSplit
import Derived.Test.YtpeokbbidipdkaaDoorLine
import Derived.RangeFuncBox
namespace Go.Proofs.YtpeokbbidipdkaaDoor.Q
open Go Go.RowKit Go.Proofs.YtpeokbbidipdkaaDoorW.PrintWords Go.Proofs.YtpeokbbidipdkaaDoorW.PrintLast Go.Proofs.YtpeokbbidipdkaaDoorW.PrintMore Go.Proofs.YtpeokbbidipdkaaDoor.Range
set_option linter.unusedVariables false
set_option linter.unusedSimpArgs false
attribute [local go_sem] Oper.semAt_some

def toS (s : Spec.St) : S36 := ⟨s.k, s.n, s.o, s.i, s.j⟩
def ansP (p : List Spec.St × Int × Int) : List S36 × Int × Int := (p.1.map toS, p.2.1, p.2.2)
def script_Parse.f (a0 : ByteArray) : Option (List S36 × Int × Int) := some (ansP (Spec.parse a0.data.toList))
def cellsSt (s : Spec.St) : List Value := [.int .i64 s.k, .int .i64 s.n, .int .i64 s.o, .int .i64 s.i, .int .i64 s.j]

theorem enterOuter (P : Program) (fn : FuncId) (tmps : Array Value) (ps : Array Tmp) (assign body : Code) (w : World) (B : Nat) (h : w.heap.size = B) :
    (Instr.enterLoop fn tmps ps assign body none).run P w = .ok (B + 1, [{ target := .collected B, args := #[] }])
      ((w.alloc (.deferred (some []))).alloc (.loop { state := .ready, pending := none, fn, tmps, params := ps, assign, body, defers := B })) := by
  subst h; exact run_enterLoop_outer fn tmps ps assign body

/-- Between two lines: H blocks lay before the call; m lines are behind, which said acc. -/
structure O (w : World) (m : Nat) (acc : List Spec.St) (v : Value) (W : World) : Prop where
  o : Boxed W (w.heap.size + 3) 23 v
  n : Boxed W (w.heap.size + 4) 3 (.int .i64 m)
  d : W.heap[w.heap.size + 8]? = some (.deferred (some []))
  r0 : Boxed W w.heap.size 23 (.slice none 0 0)
  r1 : Boxed W (w.heap.size + 1) 3 (.int .i64 0)
  r2 : Boxed W (w.heap.size + 2) 24 (.int .i64 0)
  sz : w.heap.size + 10 ≤ W.heap.size
  b : Below w.heap.size w W
  row : W.ownsRow (w.heap.size + 10) 36 5 v acc.length (acc.flatMap cellsSt)
/-- At an early return. -/
structure X (w : World) (ln er : Int) (W : World) : Prop where
  d : W.heap[w.heap.size + 8]? = some (.deferred (some []))
  r0 : Boxed W w.heap.size 23 (.slice none 0 0)
  r1 : Boxed W (w.heap.size + 1) 3 (.int .i64 ln)
  r2 : Boxed W (w.heap.size + 2) 24 (.int .i64 er)
  sz : w.heap.size + 10 ≤ W.heap.size
  b : Below w.heap.size w W

theorem O.kept {w W W' : World} {m : Nat} {acc : List Spec.St} {v : Value} (h : O w m acc v W) {row : Option Nat} (hg : W.grownBy W' row) (hr : row = none ∨ row = some (w.heap.size + 5) ∨ row = some (w.heap.size + 9)) : O w m acc v W' := by
  have hne : ∀ k, k < w.heap.size + 5 ∨ k = w.heap.size + 8 → some k ≠ row := by
    rintro k hk rfl
    rcases hr with e | e | e
    · cases e
    · have := Option.some.inj e; omega
    · have := Option.some.inj e; omega
  refine ⟨h.o.kept hg (hne _ (by omega)), h.n.kept hg (hne _ (by omega)), (hg.block _ (Array.getElem?_eq_some_iff.1 h.d).1 (hne _ (by omega))).trans h.d, h.r0.kept hg (hne _ (by omega)), h.r1.kept hg (hne _ (by omega)), h.r2.kept hg (hne _ (by omega)), Nat.le_trans h.sz hg.size, h.b.grown hg h.b.size ?_, h.row.kept hg ?_⟩
  · rintro k rfl
    rcases hr with e | e | e
    · cases e
    · have := Option.some.inj e; omega
    · have := Option.some.inj e; omega
  · rcases h.row.2 with ⟨rfl, _⟩ | ⟨g, cap, cur, rfl, hb, _⟩
    · exact .inl rfl
    · refine .inr fun e => ?_
      rcases hr with e' | e' | e'
      · rw [e'] at e; cases e
      · rw [e'] at e; have : g = w.heap.size + 5 := by simpa [Value.ownBlock] using e
        omega
      · rw [e'] at e; have : g = w.heap.size + 9 := by simpa [Value.ownBlock] using e
        omega
theorem X.kept {w W W' : World} {ln er : Int} (h : X w ln er W) {row : Option Nat} (hg : W.grownBy W' row) (hr : row = none ∨ row = some (w.heap.size + 5) ∨ row = some (w.heap.size + 9)) : X w ln er W' := by
  have hne : ∀ k, k < w.heap.size + 5 ∨ k = w.heap.size + 8 → some k ≠ row := by
    rintro k hk rfl
    rcases hr with e | e | e
    · cases e
    · have := Option.some.inj e; omega
    · have := Option.some.inj e; omega
  refine ⟨(hg.block _ (Array.getElem?_eq_some_iff.1 h.d).1 (hne _ (by omega))).trans h.d, h.r0.kept hg (hne _ (by omega)), h.r1.kept hg (hne _ (by omega)), h.r2.kept hg (hne _ (by omega)), Nat.le_trans h.sz hg.size, h.b.grown hg h.b.size ?_⟩
  rintro k rfl
  rcases hr with e | e | e
  · cases e
  · have := Option.some.inj e; omega
  · have := Option.some.inj e; omega
theorem X.drew {w W : World} {ln er : Int} (h : X w ln er W) : X w ln er W.drew := ⟨h.d, h.r0, h.r1, h.r2, h.sz, h.b.trans ⟨rfl, rfl, rfl, Nat.le_refl _, fun _ _ => rfl⟩⟩
theorem O.fail {w W : World} {m : Nat} {acc : List Spec.St} {v : Value} (h : O w m acc v W) (er : Int) : X w m er (((W.setCell ⟨w.heap.size, 0, none⟩ (.slice none 0 0)).setCell ⟨w.heap.size + 1, 0, none⟩ (.int .i64 m)).setCell ⟨w.heap.size + 2, 0, none⟩ (.int .i64 er)) := by
  have g1 := grownBy_setCell' W w.heap.size (.slice none 0 0)
  have g2 := grownBy_setCell' (W.setCell ⟨w.heap.size, 0, none⟩ (.slice none 0 0)) (w.heap.size + 1) (.int .i64 m)
  have g3 := grownBy_setCell' ((W.setCell ⟨w.heap.size, 0, none⟩ (.slice none 0 0)).setCell ⟨w.heap.size + 1, 0, none⟩ (.int .i64 m)) (w.heap.size + 2) (.int .i64 er)
  have s1 := g1.size
  have s2 := g2.size
  have s3 := g3.size
  have hz := h.sz
  refine ⟨?_, ((h.r0.set _).kept g2 (by simp)).kept g3 (by simp), ((h.r1.kept g1 (by simp)).set _).kept g3 (by simp), ((h.r2.kept g1 (by simp)).kept g2 (by simp)).set _, by omega, ((h.b.grown g1 h.b.size (by intro k e; cases e; omega)).grown g2 (by omega) (by intro k e; cases e; omega)).grown g3 (by omega) (by intro k e; cases e; omega)⟩
  exact (g3.block _ (by omega) (by simp)).trans ((g2.block _ (by omega) (by simp)).trans ((g1.block _ (by omega) (by simp)).trans h.d))
theorem _root_.Go.Proofs.YtpeokbbidipdkaaDoor.Range.Hold.fail {H : Nat} {W W6 : World} (h : Hold (H + 5) (H + 10) W W6) (er m : Int) : Hold (H + 5) (H + 8 + 1 + 1) W (((W6.setCell ⟨H, 0, none⟩ (.slice none 0 0)).setCell ⟨H + 1, 0, none⟩ (.int .i64 m)).setCell ⟨H + 2, 0, none⟩ (.int .i64 er)).drew :=
  have a := ((h.set (b := H) (j := 0) (.inl (by omega)) (.slice none 0 0)).set (b := H + 1) (j := 0) (.inl (by omega)) (.int .i64 m)).set (b := H + 2) (j := 0) (.inl (by omega)) (.int .i64 er)
  ⟨a.size, a.same⟩
theorem grown_below {W W' : World} (h : Below W.heap.size W W') : W.grownBy W' none := ⟨h.os, h.tape, h.output, h.size, fun k hk _ => h.block k hk⟩

theorem enterInner {P : Program} {l₀ : Nat} {r₀ : Loop} {w : World} (h : w.heap[l₀]? = some (.loop r₀)) (fn : FuncId) (tmps : Array Value) (ps : Array Tmp) (assign body : Code) (B : Nat) (hB : w.heap.size = B) :
    (Instr.enterLoop fn tmps ps assign body (some l₀)).run P w = .ok (B, []) (w.alloc (.loop { state := .ready, pending := none, fn, tmps, params := ps, assign, body, defers := r₀.defers })) := by
  subst hB; exact run_enterLoop_inner h fn tmps ps assign body
theorem own_ne {W : World} {base : Nat} {e : TypeId} {size : Nat} {v : Value} {k : Nat} {xs : List Value} (h : W.ownsRow base e size v k xs) {j : Nat} (hj : j < base) : v.ownBlock = none ∨ v.ownBlock ≠ some j := by
  rcases h.2 with ⟨rfl, _⟩ | ⟨g, cap, cur, rfl, hb, _⟩
  · exact .inl rfl
  · refine .inr fun e => ?_
    have : g = j := by simpa [Value.ownBlock] using e
    omega
theorem O.count {w W : World} {m : Nat} {acc : List Spec.St} {v : Value} (h : O w m acc v W) : O w (m + 1) acc v (W.setCell ⟨w.heap.size + 4, 0, none⟩ (.int .i64 ((m : Int) + 1))) := by
  have hg := grownBy_setCell' W (w.heap.size + 4) (.int .i64 ((m : Int) + 1))
  have hs := hg.size
  have hz := h.sz
  exact ⟨h.o.kept hg (by simp), h.n.set _, (hg.block _ (by omega) (by simp)).trans h.d, h.r0.kept hg (by simp), h.r1.kept hg (by simp), h.r2.kept hg (by simp), by omega, h.b.grown hg h.b.size (by intro k e; cases e; omega), h.row.kept hg (own_ne h.row (by omega))⟩
theorem own_ge {W : World} {base : Nat} {e : TypeId} {size : Nat} {v : Value} {k : Nat} {xs : List Value} (h : W.ownsRow base e size v k xs) {j : Nat} (hj : v.ownBlock = some j) : base ≤ j := by
  rcases h.2 with ⟨rfl, _⟩ | ⟨g, cap, cur, rfl, hb, _⟩
  · simp [Value.ownBlock] at hj
  · have : g = j := by simpa [Value.ownBlock] using hj
    omega
/-- A box's slice has been appended to. -/
theorem appended {W w3 : World} {B base : Nat} {t e : TypeId} {size k m : Nat} {v v' : Value} {xs ys : List Value} {tmp : Obj} (b1 : Boxed W B t v) (hrow : W.ownsRow base e size v k xs) (hown : w3.ownsRow base e size v' m ys)
    (hg : (W.alloc tmp).grownBy w3 v.ownBlock) (hB : B < base) (hbs : base ≤ W.heap.size) :
    Boxed (w3.setCell ⟨B, 0, none⟩ v') B t v' ∧ (w3.setCell ⟨B, 0, none⟩ v').ownsRow base e size v' m ys ∧ Below B W (w3.setCell ⟨B, 0, none⟩ v') ∧ ∀ k, k < base → k ≠ B → (w3.setCell ⟨B, 0, none⟩ v').heap[k]? = W.heap[k]? := by
  have hne : ∀ j, j < base → some j ≠ v.ownBlock := fun j hj e => by have := own_ge hrow e.symm; omega
  have hv3 : Boxed w3 B t v := (b1.alloc tmp).kept hg (hne _ hB)
  have hs := grownBy_setCell' w3 B v'
  refine ⟨hv3.set v', hown.kept hs (own_ne hown hB), ?_, fun k hk hkB => ?_⟩
  · exact (((Below.refl B W).alloc (by omega) tmp).grown hg (by simp; omega) (fun j e => by have := own_ge hrow e; omega)).grown hs (by have := hg.size; simp at this; omega) (by intro j e; cases e; exact Nat.le_refl _)
  · exact (hs.block k (by have := hg.size; simp at this; omega) (by simpa using hkB)).trans ((hg.block k (by simp; omega) (hne k hk)).trans (Below.heap_alloc _ _ _ (by omega)))
theorem cells_new (w : World) (xs : List Value) (t : TypeId) {B : Nat} (hB : w.heap.size = B) : ∀ j u, xs[j]? = some u → (w.alloc (.cells xs.toArray t)).cell? ((⟨B, 0, none⟩ : Addr).add j) = some u := by
  subst hB
  intro j u h
  have h0 := World.alloc_heap_new w (.cells xs.toArray t)
  have e1 : ((⟨w.heap.size, 0, none⟩ : Addr).add j) = ⟨w.heap.size, j, none⟩ := by by_cases hj : j = 0 <;> simp [Addr.add, hj]
  rw [e1]
  unfold World.cell?
  show (match (w.alloc (.cells xs.toArray t)).heap[w.heap.size]? with | some (.cells c e f) => c[j]? | _ => none) = some u
  rw [h0]
  simpa using h
theorem cellsSt_one (s : Spec.St) : ∀ u ∈ cellsSt s, u.oneCell' = true := by
  intro u hu
  simp only [cellsSt, List.mem_cons, List.not_mem_nil, or_false] at hu
  rcases hu with rfl | rfl | rfl | rfl | rfl <;> rfl
theorem info36s : (Tryd.prog.info? 36).map (fun i => (i.zero, i.size, i.bytes)) = some (some (.agg #[.int .i64 0, .int .i64 0, .int .i64 0, .int .i64 0, .int .i64 0]), 5, 40) := by kernel_rfl
theorem info9s : (Tryd.prog.info? 9).map (fun i => (i.zero, i.size, i.bytes)) = some (some (.string ⟨#[]⟩), 1, 16) := by kernel_rfl
def ne (s : ByteArray) : Bool := !s.toList.isEmpty

theorem splitB_len (c : UInt8) : ∀ l : List UInt8, (Spec.splitB c l).length ≤ l.length + 1
  | [] => by simp [Spec.splitB]
  | x :: r => by
    have h := splitB_len c r
    simp only [Spec.splitB]
    split
    · simp only [List.length_cons]; omega
    · split <;> rename_i h' <;> rw [h'] at h <;> simp only [List.length_cons, List.length_nil] at h ⊢ <;> omega
theorem splitB_mem (c : UInt8) : ∀ (l : List UInt8) (y : List UInt8), y ∈ Spec.splitB c l → y.length ≤ l.length
  | [], y, h => by simp [Spec.splitB] at h; subst h; simp
  | x :: r, y, h => by
    have ih := splitB_mem c r
    simp only [Spec.splitB] at h
    split at h
    · rcases List.mem_cons.1 h with rfl | h
      · simp
      · have := ih y h; simp only [List.length_cons]; omega
    · split at h
      · rcases List.mem_cons.1 h with rfl | h
        · simp
        · cases h
      · rename_i z zs h'
        rcases List.mem_cons.1 h with rfl | h
        · have := ih z (by rw [h']; simp); simp only [List.length_cons]; omega
        · have := ih y (by rw [h']; simp [h]); simp only [List.length_cons]; omega
theorem pieces_len {c : UInt8} {s x : ByteArray} {pre : List ByteArray} (h : Range.dat (pre ++ [x]) <+: Spec.splitB c s.data.toList) : pre.length ≤ s.size := by
  have h1 := h.length_le
  have h2 := splitB_len c s.data.toList
  have h3 : s.data.toList.length = s.size := Array.length_toList
  simp [Range.dat] at h1
  omega
theorem pieces_size {c : UInt8} {s : ByteArray} {xs : List ByteArray} (h : Range.dat xs <+: Spec.splitB c s.data.toList) (y : ByteArray) (hy : y ∈ xs) : y.size ≤ s.size := by
  have := splitB_mem c _ _ (h.subset (List.mem_map_of_mem (f := fun s : ByteArray => s.data.toList) hy))
  simpa using this
theorem drop_pre {L : List (List UInt8)} {x : ByteArray} {pre : List ByteArray} (h : Range.dat (pre ++ [x]) <+: L) : L.drop pre.length = x.data.toList :: L.drop (pre.length + 1) := by
  obtain ⟨r, rfl⟩ := h
  have e : Range.dat (pre ++ [x]) ++ r = Range.dat pre ++ (x.data.toList :: r) := by rw [Range.dat_append]; simp [Range.dat]
  have hl : (Range.dat pre).length = pre.length := by simp [Range.dat]
  rw [e, ← hl, List.drop_left, ← List.drop_drop, List.drop_left]
  rfl
theorem dat_filter {l : List UInt8} {xs : List ByteArray} (h : Range.dat xs = Spec.splitB 32 l) : Range.dat (xs.filter ne) = Spec.wordsOf l := by
  have hf : (fun w => decide (w ≠ [])) ∘ (fun s : ByteArray => s.data.toList) = ne := by
    funext s
    simp only [Function.comp, ne, toList_data]
    have : ∀ l : List UInt8, decide (l ≠ []) = !l.isEmpty := by intro l; cases l <;> simp
    exact this _
  rw [Spec.wordsOf, ← h, Range.dat, Range.dat, List.filter_map, hf]
theorem O.done {w W : World} {m : Nat} {acc : List Spec.St} {v : Value} (h : O w m acc v W) :
    ∃ W', W' = (((W.setCell ⟨w.heap.size, 0, none⟩ v).setCell ⟨w.heap.size + 1, 0, none⟩ (.int .i64 0)).setCell ⟨w.heap.size + 2, 0, none⟩ (.int .i64 0)) ∧
      W'.heap[w.heap.size + 8]? = some (.deferred (some [])) ∧ Boxed W' w.heap.size 23 v ∧ Boxed W' (w.heap.size + 1) 3 (.int .i64 0) ∧ Boxed W' (w.heap.size + 2) 24 (.int .i64 0) ∧ Below w.heap.size w W' ∧
      W'.ownsRow (w.heap.size + 10) 36 5 v acc.length (acc.flatMap cellsSt) ∧ w.heap.size + 10 ≤ W'.heap.size := by
  have g1 := grownBy_setCell' W w.heap.size v
  have g2 := grownBy_setCell' (W.setCell ⟨w.heap.size, 0, none⟩ v) (w.heap.size + 1) (.int .i64 0)
  have g3 := grownBy_setCell' ((W.setCell ⟨w.heap.size, 0, none⟩ v).setCell ⟨w.heap.size + 1, 0, none⟩ (.int .i64 0)) (w.heap.size + 2) (.int .i64 0)
  have s1 := g1.size
  have s2 := g2.size
  have s3 := g3.size
  have hz := h.sz
  refine ⟨_, rfl, ?_, ((h.r0.set _).kept g2 (by simp)).kept g3 (by simp), ((h.r1.kept g1 (by simp)).set _).kept g3 (by simp), ((h.r2.kept g1 (by simp)).kept g2 (by simp)).set _, ((h.b.grown g1 h.b.size (by intro k e; cases e; omega)).grown g2 (by omega) (by intro k e; cases e; omega)).grown g3 (by omega) (by intro k e; cases e; omega), ?_, by omega⟩
  · exact (g3.block _ (by omega) (by simp)).trans ((g2.block _ (by omega) (by simp)).trans ((g1.block _ (by omega) (by simp)).trans h.d))
  · have r1 := h.row.kept g1 (own_ne h.row (by omega))
    have r2 := r1.kept g2 (own_ne r1 (by omega))
    exact r2.kept g3 (own_ne r2 (by omega))

theorem fiveBoxes (w : World) (s : ByteArray) (c : UInt8) : ∀ W, boxed3 (((((w.alloc (Obj.cells #[Value.slice none 0 0] 23)).alloc (Obj.cells #[Value.int IntKind.i64 0] 3)).alloc (Obj.cells #[Value.int IntKind.i64 0] 24)).alloc (Obj.cells #[Value.slice none 0 0] 23)).alloc (Obj.cells #[Value.int IntKind.i64 0] 3)) s c = W →
    Boxed W (w.heap.size + 3) 23 (.slice none 0 0) ∧ Boxed W (w.heap.size + 4) 3 (.int .i64 0) ∧ Boxed W w.heap.size 23 (.slice none 0 0) ∧ Boxed W (w.heap.size + 1) 3 (.int .i64 0) ∧ Boxed W (w.heap.size + 2) 24 (.int .i64 0) ∧ Below w.heap.size w W := by
  rintro W rfl
  have b1 := Boxed.new w 23 (.slice none 0 0)
  have e1 : (w.alloc (Obj.cells #[Value.slice none 0 0] 23)).heap.size = w.heap.size + 1 := by simp
  have l1 := (Below.refl w.heap.size w).alloc (Nat.le_refl _) (Obj.cells #[Value.slice none 0 0] 23)
  obtain ⟨w1, hw1⟩ : ∃ w1, w.alloc (Obj.cells #[Value.slice none 0 0] 23) = w1 := ⟨_, rfl⟩
  rw [hw1] at b1 e1 l1 ⊢
  have b2 := Boxed.new w1 3 (.int .i64 0)
  have e2 : (w1.alloc (Obj.cells #[Value.int IntKind.i64 0] 3)).heap.size = w.heap.size + 2 := by simp [e1]
  have l2 := l1.alloc l1.size (Obj.cells #[Value.int IntKind.i64 0] 3)
  rw [e1] at b2
  obtain ⟨w2, hw2⟩ : ∃ w2, w1.alloc (Obj.cells #[Value.int IntKind.i64 0] 3) = w2 := ⟨_, rfl⟩
  replace b1 := b1.alloc (Obj.cells #[Value.int IntKind.i64 0] 3)
  rw [hw2] at b1 b2 e2 l2 ⊢
  have b3 := Boxed.new w2 24 (.int .i64 0)
  have e3 : (w2.alloc (Obj.cells #[Value.int IntKind.i64 0] 24)).heap.size = w.heap.size + 3 := by simp [e2]
  have l3 := l2.alloc l2.size (Obj.cells #[Value.int IntKind.i64 0] 24)
  rw [e2] at b3
  obtain ⟨w3, hw3⟩ : ∃ w3, w2.alloc (Obj.cells #[Value.int IntKind.i64 0] 24) = w3 := ⟨_, rfl⟩
  replace b1 := b1.alloc (Obj.cells #[Value.int IntKind.i64 0] 24)
  replace b2 := b2.alloc (Obj.cells #[Value.int IntKind.i64 0] 24)
  rw [hw3] at b1 b2 b3 e3 l3 ⊢
  have b4 := Boxed.new w3 23 (.slice none 0 0)
  have e4 : (w3.alloc (Obj.cells #[Value.slice none 0 0] 23)).heap.size = w.heap.size + 4 := by simp [e3]
  have l4 := l3.alloc l3.size (Obj.cells #[Value.slice none 0 0] 23)
  rw [e3] at b4
  obtain ⟨w4, hw4⟩ : ∃ w4, w3.alloc (Obj.cells #[Value.slice none 0 0] 23) = w4 := ⟨_, rfl⟩
  replace b1 := b1.alloc (Obj.cells #[Value.slice none 0 0] 23)
  replace b2 := b2.alloc (Obj.cells #[Value.slice none 0 0] 23)
  replace b3 := b3.alloc (Obj.cells #[Value.slice none 0 0] 23)
  rw [hw4] at b1 b2 b3 b4 e4 l4 ⊢
  have b5 := Boxed.new w4 3 (.int .i64 0)
  have e5 : (w4.alloc (Obj.cells #[Value.int IntKind.i64 0] 3)).heap.size = w.heap.size + 5 := by simp [e4]
  have l5 := l4.alloc l4.size (Obj.cells #[Value.int IntKind.i64 0] 3)
  rw [e4] at b5
  obtain ⟨w5, hw5⟩ : ∃ w5, w4.alloc (Obj.cells #[Value.int IntKind.i64 0] 3) = w5 := ⟨_, rfl⟩
  replace b1 := b1.alloc (Obj.cells #[Value.int IntKind.i64 0] 3)
  replace b2 := b2.alloc (Obj.cells #[Value.int IntKind.i64 0] 3)
  replace b3 := b3.alloc (Obj.cells #[Value.int IntKind.i64 0] 3)
  replace b4 := b4.alloc (Obj.cells #[Value.int IntKind.i64 0] 3)
  rw [hw5] at b1 b2 b3 b4 b5 e5 l5 ⊢
  have hg := grown_below (boxed3_below w5 s c)
  exact ⟨b4.kept hg (by simp), b5.kept hg (by simp), b1.kept hg (by simp), b2.kept hg (by simp), b3.kept hg (by simp), l5.grown hg (by omega) (by simp)⟩
theorem alloc_new_at (w : World) (o : Obj) {B : Nat} (h : w.heap.size = B) : (w.alloc o).heap[B]? = some o := by subst h; exact World.alloc_heap_new _ _

set_option maxRecDepth 100000 in
set_option maxHeartbeats 2000000 in
theorem Parse_short (a0 : ByteArray) (hl : (a0.size : Int) ≤ 65536) (w : World) :
    Calls Tryd.prog 10 #[.string a0] w fun e w' => ∃ v acc ln er, e = .returned (.tuple #[v, .int .i64 ln, .int .i64 er]) ∧ Spec.parseFrom 0 [] (Spec.splitB 10 a0.data.toList) = (acc, ln, er) ∧ w'.ownsRow (w.heap.size + 10) 36 5 v acc.length (acc.flatMap cellsSt) ∧ Below w.heap.size w w' := by
  have h0 : decide (65536 < (a0.size : Int)) = false := by simp; omega
  refine (callsIn_wide (n := 100)).1 ?_
  refine callsIn_of_wp_marks Tryd.func10 rfl trivial ?_ rfl
  simp only [Tryd.ntmps10, List.size_toArray, List.length_cons, List.length_nil, Nat.reduceAdd, Nat.reduceSub, Array.replicate_succ, Array.replicate_zero, List.push_toArray, List.append_toArray, List.nil_append, List.cons_append]
  have h11 : 1 ≤ 100 := by decide
  gi_wp2
  refine wpIn_wide.2 (wp_scope_straight (wpIn_wide (n := 100).1 ?_))
  gi_wp2
  refine wpIn_label ?_
  gi_wp2_with (refine ⟨trivial, ?_⟩; gi_at_call 15; refine (callsIn_wide.2 (Range.splitSeq_calls _ _ _)).mono ?_; rintro e w' ⟨rfl, rfl⟩)
  simp only [Nat.add_assoc, Nat.reduceAdd]
  obtain ⟨Wb, hWb⟩ : ∃ Wb, boxed3 (((((w.alloc (Obj.cells #[Value.slice none 0 0] 23)).alloc (Obj.cells #[Value.int IntKind.i64 0] 3)).alloc (Obj.cells #[Value.int IntKind.i64 0] 24)).alloc (Obj.cells #[Value.slice none 0 0] 23)).alloc (Obj.cells #[Value.int IntKind.i64 0] 3)) a0 10 = Wb := ⟨_, rfl⟩
  rw [hWb]
  have hB : Wb.heap.size = w.heap.size + 8 := by rw [← hWb, boxed3_size]; simp
  have hO0 : Boxed Wb (w.heap.size + 3) 23 (.slice none 0 0) ∧ Boxed Wb (w.heap.size + 4) 3 (.int .i64 0) ∧ Boxed Wb w.heap.size 23 (.slice none 0 0) ∧ Boxed Wb (w.heap.size + 1) 3 (.int .i64 0) ∧ Boxed Wb (w.heap.size + 2) 24 (.int .i64 0) ∧ Below w.heap.size w Wb := by
    exact fiveBoxes w a0 10 _ hWb
  have hBx : Boxes (w.heap.size + 5) 10 a0 Wb := by
    have := boxed3_boxes (((((w.alloc (Obj.cells #[Value.slice none 0 0] 23)).alloc (Obj.cells #[Value.int IntKind.i64 0] 3)).alloc (Obj.cells #[Value.int IntKind.i64 0] 24)).alloc (Obj.cells #[Value.slice none 0 0] 23)).alloc (Obj.cells #[Value.int IntKind.i64 0] 3)) a0 10
    rw [hWb] at this
    simpa only [World.size_alloc] using this
  clear hWb
  have HSS : Aside0 (a0.size ≤ 4611686018427387904) := ⟨by omega⟩
  rename_i Q0 K1 hK1
  refine Range.range_law (a := {tmps := #[.string a0, undef, .pointer (some ⟨w.heap.size, 0, none⟩), .pointer (some ⟨w.heap.size + 1, 0, none⟩), .pointer (some ⟨w.heap.size + 2, 0, none⟩), .pointer (some ⟨w.heap.size + 3, 0, none⟩), .pointer (some ⟨w.heap.size + 4, 0, none⟩), undef, undef, undef, undef, undef, .string a0, .int .i64 (a0.size : Int), .bool false, .string a0, .func (.func 35) #[] #[.pointer (some ⟨w.heap.size + 6, 0, none⟩), .pointer (some ⟨w.heap.size + 5, 0, none⟩), .pointer (some ⟨w.heap.size + 7, 0, none⟩)], undef, undef, undef, undef, undef, undef, undef, undef, undef, undef, undef, undef, undef, undef, undef, undef, undef, undef, undef, undef, undef, undef, undef, undef, undef, undef, undef, undef, undef, undef, undef, undef, undef, undef], defers := []}) h11 (gf := 35) (lb := #[.pointer (some ⟨w.heap.size + 6, 0, none⟩), .pointer (some ⟨w.heap.size + 5, 0, none⟩), .pointer (some ⟨w.heap.size + 7, 0, none⟩)]) rfl trivial (fun _ _ => rfl) (l := w.heap.size + 8 + 1) (lo := w.heap.size + 5) (bs := w.heap.size + 5) (D := w.heap.size + 8)
    (mark := [{ target := .collected (w.heap.size + 8), args := #[] }])
    (w1 := fun fn => (Wb.alloc (.deferred (some []))).alloc (.loop { state := .ready, pending := none, fn, tmps := #[.string a0, undef, .pointer (some ⟨w.heap.size, 0, none⟩), .pointer (some ⟨w.heap.size + 1, 0, none⟩), .pointer (some ⟨w.heap.size + 2, 0, none⟩), .pointer (some ⟨w.heap.size + 3, 0, none⟩), .pointer (some ⟨w.heap.size + 4, 0, none⟩), undef, undef, undef, undef, undef, .string a0, .int .i64 (a0.size : Int), .bool false, .string a0, .func (.func 35) #[] #[.pointer (some ⟨w.heap.size + 6, 0, none⟩), .pointer (some ⟨w.heap.size + 5, 0, none⟩), .pointer (some ⟨w.heap.size + 7, 0, none⟩)], undef, undef, undef, undef, undef, undef, undef, undef, undef, undef, undef, undef, undef, undef, undef, undef, undef, undef, undef, undef, undef, undef, undef, undef, undef, undef, undef, undef, undef, undef, undef, undef, undef, undef], params := #[17], assign := _, body := _, defers := w.heap.size + 8 }))
    (by omega) (by omega) rfl (fun fn => enterOuter _ _ _ _ _ _ _ _ hB) (fun fn => ?hL)
    (S := fun xs => Range.dat xs = Spec.splitB 10 a0.data.toList) (Sp := fun _ => True) (N := fun pre x => Range.dat (pre ++ [x]) <+: Spec.splitB 10 a0.data.toList) (fun fn J Jx hJs hY hJ0 => ?hseq)
    (fun pre W => ∃ v acc, O w pre.length acc v W ∧ acc.length ≤ 4096 ∧ Spec.parseFrom 0 [] (Spec.splitB 10 a0.data.toList) = Spec.parseFrom pre.length acc ((Spec.splitB 10 a0.data.toList).drop pre.length))
    (fun pre W => ∃ ln er, X w ln er W ∧ Spec.parseFrom 0 [] (Spec.splitB 10 a0.data.toList) = ([], ln, er))
    ?hIl ?hIxl ?hIs (fun fn => ?h0) (fun x => {tmps := #[.string a0, undef, .pointer (some ⟨w.heap.size, 0, none⟩), .pointer (some ⟨w.heap.size + 1, 0, none⟩), .pointer (some ⟨w.heap.size + 2, 0, none⟩), .pointer (some ⟨w.heap.size + 3, 0, none⟩), .pointer (some ⟨w.heap.size + 4, 0, none⟩), .string x, undef, undef, undef, undef, .string a0, .int .i64 (a0.size : Int), .bool false, .string a0, .func (.func 35) #[] #[.pointer (some ⟨w.heap.size + 6, 0, none⟩), .pointer (some ⟨w.heap.size + 5, 0, none⟩), .pointer (some ⟨w.heap.size + 7, 0, none⟩)], .string x, undef, undef, undef, undef, undef, undef, undef, undef, undef, undef, undef, undef, undef, undef, undef, undef, undef, undef, undef, undef, undef, undef, undef, undef, undef, undef, undef, undef, undef, undef, undef, undef, undef], defers := []}) ?hassign ?hbody ?hdone ?hstop
  case hL => exact alloc_new_at _ _ (by simp [hB])
  case hseq =>
    exact Range.split_in 99 (by decide) 10 (w.heap.size + 8 + 1) (w.heap.size + 5) a0 HSS.out J Jx hJs (fun pre x W hJ hx => (hY pre x W hJ hx).mono (by
      rintro e W' (⟨h1, h2, h3⟩ | h)
      · exact .inl ⟨h1, h2, h3.sub (by omega)⟩
      · exact .inr h)) _ ((hBx.hold (Hold.alloc (Hold.refl _ _ _) (by omega) _)).hold (Hold.alloc (Hold.refl _ _ _) (by simp; omega) _)) hJ0
  case hIl =>
    rintro s W o ⟨v, acc, h1, h2⟩
    exact ⟨v, acc, h1.kept (grownBy_putObj' W _ o) (.inr (.inr rfl)), h2⟩
  case hIxl =>
    rintro s W o ⟨ln, er, h1, h2⟩
    exact ⟨ln, er, h1.kept (grownBy_putObj' W _ o) (.inr (.inr rfl)), h2⟩
  case hIs =>
    rintro s W v ⟨v', acc, h1, h2⟩
    exact ⟨v', acc, h1.kept (grownBy_setCell' W _ v) (.inr (.inl rfl)), h2⟩
  case h0 =>
    obtain ⟨b1, b2, b3, b4, b5, b6⟩ := hO0
    refine ⟨.slice none 0 0, [], ⟨(b1.alloc _).alloc _, (b2.alloc _).alloc _, ?_, (b3.alloc _).alloc _, (b4.alloc _).alloc _, (b5.alloc _).alloc _, by simp; omega, (b6.alloc b6.size _).alloc (by simp; omega) _, ⟨rfl, .inl ⟨rfl, rfl⟩⟩⟩, by simp, rfl⟩
    exact (Below.heap_alloc _ _ _ (by simp; omega)).trans (alloc_new_at _ _ hB)
  case hassign =>
    intro x W K hK
    gi_wp2
    exact hK
  case hbody =>
    rintro pre x W ⟨r, hr⟩ ⟨v, acc, hO, hlen, hp⟩ hN
    have HO := Aside0.mk hO
    have f1 := hO.n.cell
    have f2 := hO.n.frozen
    have hpl : pre.length ≤ 65536 := by have := pieces_len hN; omega
    have hxs : x.size ≤ a0.size := pieces_size hN x (by simp)
    have f0 : ¬ x.size > 4611686018427387904 := by omega
    gi_wp2_with (refine ⟨trivial, ?_⟩; gi_at_call 15; refine (CallsIn.inRound (w.heap.size + 8 + 1) (callsIn_wide.2 (Range.splitSeq_calls _ _ _))).mono ?_; rintro e w' ⟨rfl, rfl⟩)
    obtain ⟨Wr, hWr⟩ : ∃ Wr, W.setCell ⟨w.heap.size + 4, 0, none⟩ (.int .i64 ((pre.length : Int) + 1)) = Wr := ⟨_, rfl⟩
    rw [hWr]
    have hsr : Wr.heap.size = W.heap.size := by rw [← hWr]; simp [World.setCell]
    have hWsz := hO.sz
    have hold1 : Hold (w.heap.size + 5) (w.heap.size + 10) W Wr := by rw [← hWr]; exact (Hold.refl _ _ _).set (.inl (by omega)) _
    have hO1 : O w (pre.length + 1) acc v Wr := by
      rw [← hWr]
      exact hO.count
    obtain ⟨Wi, hWi⟩ : ∃ Wi, boxed3 (Wr.alloc (.cells #[.slice none 0 0] 37)) x 32 = Wi := ⟨_, rfl⟩
    rw [hWi]
    have hsi : Wi.heap.size = W.heap.size + 4 := by rw [← hWi, boxed3_size]; simp [hsr]
    have hbi : Below W.heap.size Wr Wi := by
      rw [← hWi, ← hsr]
      exact ((Below.refl _ Wr).alloc (Nat.le_refl _) _).grown (grown_below (boxed3_below _ _ _)) (by simp) (by simp)
    have hBx2 : Boxes (W.heap.size + 1) 32 x Wi := by
      have := boxed3_boxes (Wr.alloc (.cells #[.slice none 0 0] 37)) x 32
      rw [hWi] at this
      simpa only [World.size_alloc, hsr] using this
    have hbox : Boxed Wi W.heap.size 37 (.slice none 0 0) := by
      have := (Boxed.new Wr 37 (.slice none 0 0)).kept (grown_below (boxed3_below (Wr.alloc (.cells #[.slice none 0 0] 37)) x 32)) (by simp)
      rw [hWi, hsr] at this
      exact this
    have hri : Wi.heap[w.heap.size + 8 + 1]? = some (.loop r) := by
      rw [hbi.block _ (by omega), hold1.same _ (by omega) (by omega)]; exact hr
    clear hWi hWr f1 f2
    rename_i Q2 K2 hK2
    refine Range.range_law (F := Fence.wide.inRound (w.heap.size + 8 + 1)) (n := 100 - 1 - 1) (a := {tmps := #[.string a0, undef, .pointer (some ⟨w.heap.size, 0, none⟩), .pointer (some ⟨w.heap.size + 1, 0, none⟩), .pointer (some ⟨w.heap.size + 2, 0, none⟩), .pointer (some ⟨w.heap.size + 3, 0, none⟩), .pointer (some ⟨w.heap.size + 4, 0, none⟩), .string x, .pointer (some ⟨W.heap.size, 0, none⟩), undef, undef, undef, .string a0, .int .i64 (a0.size : Int), .bool false, .string a0, .func (.func 35) #[] #[.pointer (some ⟨w.heap.size + 6, 0, none⟩), .pointer (some ⟨w.heap.size + 5, 0, none⟩), .pointer (some ⟨w.heap.size + 7, 0, none⟩)], .string x, .int .i64 (pre.length : Int), .int .i64 ((pre.length : Int) + 1), .string x, .func (.func 35) #[] #[.pointer (some ⟨W.heap.size + 1 + 1, 0, none⟩), .pointer (some ⟨W.heap.size + 1, 0, none⟩), .pointer (some ⟨W.heap.size + 1 + 2, 0, none⟩)], undef, undef, undef, undef, undef, undef, undef, undef, undef, undef, undef, undef, undef, undef, undef, undef, undef, undef, undef, undef, undef, undef, undef, undef, undef, undef, undef, undef, undef], defers := []}) (by decide) (gf := 35) (lb := #[.pointer (some ⟨W.heap.size + 1 + 1, 0, none⟩), .pointer (some ⟨W.heap.size + 1, 0, none⟩), .pointer (some ⟨W.heap.size + 1 + 2, 0, none⟩)]) rfl trivial (fun _ _ => rfl) (l := W.heap.size + 4) (lo := W.heap.size + 1) (bs := W.heap.size + 1) (D := r.defers)
      (mark := [])
      (w1 := fun fn => Wi.alloc (.loop { state := .ready, pending := none, fn, tmps := #[.string a0, undef, .pointer (some ⟨w.heap.size, 0, none⟩), .pointer (some ⟨w.heap.size + 1, 0, none⟩), .pointer (some ⟨w.heap.size + 2, 0, none⟩), .pointer (some ⟨w.heap.size + 3, 0, none⟩), .pointer (some ⟨w.heap.size + 4, 0, none⟩), .string x, .pointer (some ⟨W.heap.size, 0, none⟩), undef, undef, undef, .string a0, .int .i64 (a0.size : Int), .bool false, .string a0, .func (.func 35) #[] #[.pointer (some ⟨w.heap.size + 6, 0, none⟩), .pointer (some ⟨w.heap.size + 5, 0, none⟩), .pointer (some ⟨w.heap.size + 7, 0, none⟩)], .string x, .int .i64 (pre.length : Int), .int .i64 ((pre.length : Int) + 1), .string x, .func (.func 35) #[] #[.pointer (some ⟨W.heap.size + 1 + 1, 0, none⟩), .pointer (some ⟨W.heap.size + 1, 0, none⟩), .pointer (some ⟨W.heap.size + 1 + 2, 0, none⟩)], undef, undef, undef, undef, undef, undef, undef, undef, undef, undef, undef, undef, undef, undef, undef, undef, undef, undef, undef, undef, undef, undef, undef, undef, undef, undef, undef, undef, undef], params := #[22], assign := _, body := _, defers := r.defers }))
      (by omega) (by omega) rfl (fun fn => enterInner hri _ _ _ _ _ _ hsi) (fun fn => ?hL2)
      (S := fun xs => Range.dat xs = Spec.splitB 32 x.data.toList) (Sp := fun _ => True) (N := fun pre' y => Range.dat (pre' ++ [y]) <+: Spec.splitB 32 x.data.toList) (fun fn J Jx hJs hY hJ0 => ?hseq2)
      (fun ws W2 => ∃ v2, Boxed W2 W.heap.size 37 v2 ∧ W2.ownsRow (W.heap.size + 5) 9 1 v2 (ws.filter ne).length ((ws.filter ne).map .string) ∧ Below W.heap.size Wr W2 ∧ W.heap.size + 5 ≤ W2.heap.size)
      (fun _ _ => False)
      ?hIl2 ?hIxl2 ?hIs2 (fun fn => ?h02) (fun y => {tmps := #[.string a0, undef, .pointer (some ⟨w.heap.size, 0, none⟩), .pointer (some ⟨w.heap.size + 1, 0, none⟩), .pointer (some ⟨w.heap.size + 2, 0, none⟩), .pointer (some ⟨w.heap.size + 3, 0, none⟩), .pointer (some ⟨w.heap.size + 4, 0, none⟩), .string x, .pointer (some ⟨W.heap.size, 0, none⟩), .string y, undef, undef, .string a0, .int .i64 (a0.size : Int), .bool false, .string a0, .func (.func 35) #[] #[.pointer (some ⟨w.heap.size + 6, 0, none⟩), .pointer (some ⟨w.heap.size + 5, 0, none⟩), .pointer (some ⟨w.heap.size + 7, 0, none⟩)], .string x, .int .i64 (pre.length : Int), .int .i64 ((pre.length : Int) + 1), .string x, .func (.func 35) #[] #[.pointer (some ⟨W.heap.size + 1 + 1, 0, none⟩), .pointer (some ⟨W.heap.size + 1, 0, none⟩), .pointer (some ⟨W.heap.size + 1 + 2, 0, none⟩)], .string y, undef, undef, undef, undef, undef, undef, undef, undef, undef, undef, undef, undef, undef, undef, undef, undef, undef, undef, undef, undef, undef, undef, undef, undef, undef, undef, undef, undef], defers := []}) ?hassign2 ?hbody2 ?hdone2 ?hstop2
    case hL2 => exact alloc_new_at _ _ hsi
    case hseq2 =>
      exact Range.split_in (100 - 1 - 1 - 1) (by decide) 32 (W.heap.size + 4) (W.heap.size + 1) x (by omega) J Jx hJs (fun pre x W hJ hx => (hY pre x W hJ hx).mono (by
        rintro e W' (⟨h1, h2, h3⟩ | h)
        · exact .inl ⟨h1, h2, h3.sub (by omega)⟩
        · exact .inr h)) _ (hBx2.hold (Hold.alloc (Hold.refl _ _ _) (by omega) _)) hJ0
    case hIl2 =>
      rintro s W3 o ⟨v2, b1, b2, b3, b4⟩
      have hg := grownBy_putObj' W3 (W.heap.size + 4) o
      exact ⟨v2, b1.kept hg (by simp), b2.kept hg (own_ne b2 (by omega)), b3.grown hg (by omega) (by intro k e; cases e; omega), by have := hg.size; omega⟩
    case hIxl2 => intro _ _ _ h; exact h
    case hIs2 =>
      rintro s W3 v ⟨v2, b1, b2, b3, b4⟩
      have hg := grownBy_setCell' W3 (W.heap.size + 1) v
      exact ⟨v2, b1.kept hg (by simp), b2.kept hg (own_ne b2 (by omega)), b3.grown hg (by omega) (by intro k e; cases e; omega), by have := hg.size; omega⟩
    case h02 =>
      exact ⟨.slice none 0 0, hbox.alloc _, ⟨rfl, .inl ⟨rfl, rfl⟩⟩, hbi.alloc (by omega) _, by simp; omega⟩
    case hassign2 =>
      intro y W3 K hK
      gi_wp2
      exact hK
    case hbody2 =>
      rintro pre' y W3 ⟨r', hr'⟩ ⟨v2, b1, b2, b3, b4⟩ hN'
      by_cases hy : y.toList.isEmpty = true
      · gi_wp2
        have e1 : (pre' ++ [y]).filter ne = pre'.filter ne := by simp [ne, hy]
        refine ⟨Hold.refl _ _ _, v2, b1, ?_, b3, b4⟩
        rw [e1]
        exact b2
      · have hy1 : y.toList.isEmpty = false := by simpa using hy
        have e1 : (pre' ++ [y]).filter ne = pre'.filter ne ++ [y] := by simp [ne, hy1]
        have hus : Tryd.prog.underlying 37 = some (.slice 9) := Tryd.underlying37
        obtain ⟨i0, hi, hz0, hz1, hz2⟩ := info_parts info9s
        have c1 := b1.cell
        have c2 := b1.frozen
        have hpl' : (pre'.filter ne).length ≤ 100000 := by have h1 := pieces_len hN'; have h2 := List.length_filter_le ne pre'; omega
        gi_wp2_with (
          gi_at_builtin
          refine wpListIn_append_own _ rfl _ _ 37 rfl (W.heap.size + 5) 9 i0 (.string ⟨#[]⟩) 1 16 Tryd.underlying37 hi hz0 hz1 hz2 rfl (by decide) _ _ _ rfl (b2.alloc _) ⟨W3.heap.size, 0, none⟩ 1 1 [.string y] rfl rfl (cell_one_new _ _ _) (by simp [Value.oneCell']) (by simp [maxLen]; omega) (by omega) (by simp; omega) ?_
          intro v' w3 hown' hg3 hnil3
          have hv3 : w3.heap[W.heap.size]? = some (.cells #[v2] 37 (0, 0)) := ((b1.alloc _).kept hg3 (b1.not_row (by decide) b2))
          obtain ⟨g', cap', rfl⟩ := ownsRow_succ hown'
          have c3 := Boxed.cell hv3
          have c4 := Boxed.frozen hv3)
        obtain ⟨p1, p2, p3, p4⟩ := appended b1 b2 hown' hg3 (by omega) (by omega)
        refine ⟨⟨?_, fun k h1 h2 => p4 k (by omega) (by omega)⟩, _, p1, ?_, b3.trans p3, ?_⟩
        · exact p3.size
        · rw [e1]; simpa using p2
        · exact Nat.le_trans b4 p3.size
    case hdone2 =>
      rintro xs W3 hS ⟨v2, b1, b2, b3, b4⟩
      have hws : Range.dat (xs.filter ne) = Spec.wordsOf x.data.toList := dat_filter hS
      have hpx : Spec.parseFrom pre.length acc ((Spec.splitB 10 a0.data.toList).drop pre.length) = Spec.parseFrom pre.length acc (x.data.toList :: (Spec.splitB 10 a0.data.toList).drop (pre.length + 1)) := by rw [drop_pre hN]
      have hsp : (pre ++ [x]).length = pre.length + 1 := by simp
      have hd3 : Hold (w.heap.size + 5) (w.heap.size + 10) W W3 := hold1.below (by omega) (by rw [hsr]; exact b3)
      have hO3 : O w (pre.length + 1) acc v W3 := hO1.kept (grown_below (by rw [hsr]; exact b3)) (.inl rfl)
      show K2 _ _
      apply hK2
      obtain ⟨A, c, rfl, hcap0⟩ : ∃ A c, v2 = .slice A (xs.filter ne).length c ∧ (xs.filter ne).length ≤ c := by
        rcases b2.2 with ⟨h1, h2⟩ | ⟨g, cap, cur, h1, _, _, h2, _⟩
        · rw [h2]; exact ⟨none, 0, h1, Nat.le_refl _⟩
        · exact ⟨some ⟨g, 0, none⟩, cap, h1, h2⟩
      have hsz0 : ∀ s ∈ xs.filter ne, s.size ≤ 4611686018427387904 := fun s hs => by
        have := pieces_size (by rw [hS]; exact List.prefix_refl _) s (List.mem_filter.1 hs).1; omega
      have hlz0 : (xs.filter ne).length ≤ 1000000000 := by
        have h1 := splitB_len 32 x.data.toList
        have h2 := List.length_filter_le ne xs
        have h3 : (Range.dat xs).length = xs.length := by simp [Range.dat]
        rw [hS] at h3
        have h4 : x.data.toList.length = x.size := Array.length_toList
        omega
      have c1 := b1.cell
      cases hls : xs.filter ne with
      | nil =>
        rw [hls] at hws
        have hw0 : Spec.wordsOf x.data.toList = [] := hws.symm
        have hp2 : Spec.parseFrom pre.length acc (x.data.toList :: (Spec.splitB 10 a0.data.toList).drop (pre.length + 1)) = Spec.parseFrom (pre.length + 1) acc ((Spec.splitB 10 a0.data.toList).drop (pre.length + 1)) := by
          simp only [Spec.parseFrom]; rw [if_pos hw0]
        rw [hls] at c1
        gi_wp2
        refine ⟨hd3, v, acc, by rw [hsp]; exact hO3, hlen, ?_⟩
        rw [hsp, hp, hpx, hp2]
      | cons z zs =>
        rw [hls] at c1
        have hC : Kd.C Kd.string W3 A (z :: zs).length (z :: zs) := by
          rw [← hls]
          exact (Kd.R_reads' (Kd.R_of_own (enc := Value.string) (h1 := fun _ => rfl) (ok := fun _ => True) b2 (fun _ _ => trivial))).2.2
        have hcap : (z :: zs).length ≤ c := by rw [← hls]; exact hcap0
        have hsz9 : ∀ s ∈ z :: zs, s.size ≤ 4611686018427387904 := by rw [← hls]; exact hsz0
        have hlz : (z :: zs).length ≤ 1000000000 := by rw [← hls]; exact hlz0
        have hwx : Q.dat (z :: zs) = Spec.wordsOf x.data.toList := by rw [← hws, hls]; rfl
        have hf : script_line.f (z :: zs) = some (tup (Spec.lineOf (Q.dat (z :: zs)))) := if_pos ⟨by simp, hsz9, hlz⟩
        have hu36 := Tryd.underlying36
        have hpl2 : Spec.parseFrom 0 [] (Spec.splitB 10 a0.data.toList) = match Spec.lineOf (Q.dat (z :: zs)) with
            | none => ([], (pre.length : Int) + 1, 50)
            | some s => if acc.length = 4096 then ([], (pre.length : Int) + 1, 3) else Spec.parseFrom (pre.length + 1) (acc ++ [s]) ((Spec.splitB 10 a0.data.toList).drop (pre.length + 1)) := by
          rw [hp, hpx, hwx]
          simp only [Spec.parseFrom]
          rw [if_neg (by rw [← hwx]; simp [Q.dat])]
          rfl
        clear hp hpx
        have HP := Aside0.mk hpl2
        have HC := Aside0.mk hC
        have HF := Aside0.mk hf
        clear hpl2 hC hf
        cases hln : Spec.lineOf (Q.dat (z :: zs)) with
        | none =>
          have hf0 : script_line.f (z :: zs) = some (0, 0, 0, 0, 0, false) := by rw [HF.out, hln]; rfl
          gi_wp2_with (refine ⟨trivial, ?_⟩; gi_at_call 16; refine (CallsIn.inRound (w.heap.size + 8 + 1) (callsIn_wide.2 (script_line.calls A c (z :: zs) _ _ _ _ _ _ _ HC.out hcap hf0))).mono ?_; rintro e w5 ⟨rfl, hb5⟩)
          have hO6 := (hO3.kept (grown_below hb5) (.inl rfl)).kept (World.grownBy_alloc w5 (.cells #[.int .i64 0, .int .i64 0, .int .i64 0, .int .i64 0, .int .i64 0] 36) none) (.inl rfl)
          have hd6 : Hold (w.heap.size + 5) (w.heap.size + 10) W (w5.alloc (.cells #[.int .i64 0, .int .i64 0, .int .i64 0, .int .i64 0, .int .i64 0] 36)) := (hd3.below (by omega) hb5).alloc (by omega) _
          obtain ⟨W6, hW6⟩ : ∃ W6, w5.alloc (.cells #[.int .i64 0, .int .i64 0, .int .i64 0, .int .i64 0, .int .i64 0] 36) = W6 := ⟨_, rfl⟩
          rw [hW6] at hO6 hd6 ⊢
          have k1 := hO6.n.cell
          have k2 := hO6.r0.cell
          have k3 := hO6.r0.frozen
          have k4 := hO6.r1.cell
          have k5 := hO6.r1.frozen
          have k6 := hO6.r2.cell
          have k7 := hO6.r2.frozen
          have hX := (hO6.fail 50).drew
          have hpn := HP.out
          rw [hln] at hpn
          have HPN := Aside0.mk hpn
          clear hpn HP
          have hHX := hd6.fail
          gi_region
          all_goals
            gi_wp2
            exact ⟨hHX 50 _, _, _, hX, HPN.out⟩
        | some s =>
          have hf0 : script_line.f (z :: zs) = some (s.k, s.n, s.o, s.i, s.j, true) := by rw [HF.out, hln]; rfl
          have hpn := HP.out
          rw [hln] at hpn
          have HPN := Aside0.mk hpn
          clear hpn
          clear HP
          obtain ⟨A', c', hvA, hcc⟩ : ∃ A c, v = .slice A acc.length c ∧ acc.length ≤ c := by
            rcases hO.row.2 with ⟨h1, h2⟩ | ⟨g, cap, cur, h1, _, _, h2, _⟩
            · rw [h2]; exact ⟨none, 0, h1, Nat.le_refl _⟩
            · exact ⟨some ⟨g, 0, none⟩, cap, h1, h2⟩
          subst hvA
          by_cases h4 : acc.length = 4096
          · have hl4 : ((acc.length : Int) == 4096) = true := by simp [h4]
            gi_wp2_with (
              refine ⟨trivial, ?_⟩
              gi_at_call 16
              refine (CallsIn.inRound (w.heap.size + 8 + 1) (callsIn_wide.2 (script_line.calls A c (z :: zs) _ _ _ _ _ _ _ HC.out hcap hf0))).mono ?_
              rintro e w5 ⟨rfl, hb5⟩
              have hO5 := (hO3.kept (grown_below hb5) (.inl rfl))
              have q1 := hO5.o.cell
              have q2 := World.block_lt_of_cell? _ _ q1)
            have hO6 := (hO3.kept (grown_below hb5) (.inl rfl)).kept (World.grownBy_alloc w5 (.cells #[.int .i64 s.k, .int .i64 s.n, .int .i64 s.o, .int .i64 s.i, .int .i64 s.j] 36) none) (.inl rfl)
            have hd6 : Hold (w.heap.size + 5) (w.heap.size + 10) W (w5.alloc (.cells #[.int .i64 s.k, .int .i64 s.n, .int .i64 s.o, .int .i64 s.i, .int .i64 s.j] 36)) := (hd3.below (by omega) hb5).alloc (by omega) _
            obtain ⟨W6, hW6⟩ : ∃ W6, w5.alloc (.cells #[.int .i64 s.k, .int .i64 s.n, .int .i64 s.o, .int .i64 s.i, .int .i64 s.j] 36) = W6 := ⟨_, rfl⟩
            rw [hW6] at hO6 hd6 ⊢

            have k1 := hO6.n.cell
            have k2 := hO6.r0.cell
            have k3 := hO6.r0.frozen
            have k4 := hO6.r1.cell
            have k5 := hO6.r1.frozen
            have k6 := hO6.r2.cell
            have k7 := hO6.r2.frozen
            have hX := (hO6.fail 3).drew
            have hHX := hd6.fail
            gi_region
            all_goals
              gi_wp2
              exact ⟨hHX 3 _, _, _, hX, by rw [HPN.out]; exact if_pos h4⟩
          · have hl4 : ((acc.length : Int) == 4096) = false := by
              cases hh : ((acc.length : Int) == 4096) with
              | false => rfl
              | true => exact absurd (by have := beq_iff_eq.1 hh; omega) h4
            obtain ⟨i0, hi, hz0, hz1, hz2⟩ := info_parts info36s
            gi_wp2_with (first
              | (gi_at_builtin
                 refine wpListIn_append_own _ rfl _ _ 23 rfl (w.heap.size + 10) 36 i0 (.agg #[.int .i64 0, .int .i64 0, .int .i64 0, .int .i64 0, .int .i64 0]) 5 40 Tryd.underlying23 hi hz0 hz1 hz2 rfl (by decide) _ _ _ rfl (hO6.row.alloc _) ⟨w5.heap.size + 1, 0, none⟩ 1 1 (cellsSt s) rfl rfl (cells_new _ _ _ (by simp)) (cellsSt_one s) (by simp [maxLen]; omega) (by omega) (by have := hO6.sz; simp at this ⊢; omega) ?_
                 intro v' w7 hown' hg7 hnil7
                 have hv7 : Boxed w7 (w.heap.size + 3) 23 (.slice A' acc.length c') := ((hO6.o.alloc _).kept hg7 (hO6.o.not_row (by decide) hO6.row))
                 obtain ⟨g', cap', rfl⟩ := ownsRow_succ hown'
                 have d3 := Boxed.cell hv7
                 have d4 := Boxed.frozen hv7)
              | (
              refine ⟨trivial, ?_⟩
              gi_at_call 16
              refine (CallsIn.inRound (w.heap.size + 8 + 1) (callsIn_wide.2 (script_line.calls A c (z :: zs) _ _ _ _ _ _ _ HC.out hcap hf0))).mono ?_
              rintro e w5 ⟨rfl, hb5⟩
              have hO5 := (hO3.kept (grown_below hb5) (.inl rfl))
              have q1 := hO5.o.cell
              have q2 := World.block_lt_of_cell? _ _ q1
              have hO6 := hO5.kept (World.grownBy_alloc w5 (.cells #[.int .i64 s.k, .int .i64 s.n, .int .i64 s.o, .int .i64 s.i, .int .i64 s.j] 36) none) (.inl rfl)
              have hd6 : Hold (w.heap.size + 5) (w.heap.size + 10) W (w5.alloc (.cells #[.int .i64 s.k, .int .i64 s.n, .int .i64 s.o, .int .i64 s.i, .int .i64 s.j] 36)) := (hd3.below (by omega) hb5).alloc (by omega) _))
            obtain ⟨p1, p2, p3, p4⟩ := appended hO6.o hO6.row hown' hg7 (by omega) hO6.sz
            refine ⟨?_, _, acc ++ [s], ⟨p1, ?_, ?_, ?_, ?_, ?_, ?_, ?_, ?_⟩, ?_, ?_⟩
            · exact ⟨Nat.le_trans hd6.size p3.size, fun k h1 h2 => (p4 k (by omega) (by omega)).trans (hd6.same k h1 (by omega))⟩
            · rw [hsp]; exact (p4 _ (by omega) (by omega)).trans hO6.n
            · exact (p4 _ (by omega) (by omega)).trans hO6.d
            · exact (p4 _ (by omega) (by omega)).trans hO6.r0
            · exact (p4 _ (by omega) (by omega)).trans hO6.r1
            · exact (p4 _ (by omega) (by omega)).trans hO6.r2
            · exact Nat.le_trans hO6.sz p3.size
            · exact hO6.b.trans ⟨p3.os, p3.tape, p3.output, p3.size, fun k hk => p3.block k (by omega)⟩
            · have e : (acc ++ [s]).flatMap cellsSt = acc.flatMap cellsSt ++ cellsSt s := by simp
              rw [e, List.length_append]; exact p2
            · simp; omega
            · rw [hsp, HPN.out]; exact if_neg h4
    case hstop2 => intro _ _ _ h; exact h.elim
  case hdone =>
    rintro xs W hS ⟨v, acc, hO, hlen, hp⟩
    have hp' : Spec.parseFrom 0 [] (Spec.splitB 10 a0.data.toList) = (acc, 0, 0) := by
      rw [hp, ← hS, List.drop_of_length_le (by simp [Range.dat])]; rfl
    clear hp
    have HO := Aside0.mk hO
    show K1 _ _
    apply hK1
    have f1 := hO.o.cell
    have f2 := hO.r0.frozen
    have f3 := hO.r1.frozen
    have f4 := hO.r2.frozen
    have f5 := hO.r0.cell
    have f6 := hO.r1.cell
    have f7 := hO.r2.cell
    obtain ⟨A, c, rfl⟩ : ∃ A c, v = .slice A acc.length c := by
      rcases hO.row.2 with ⟨h1, h2⟩ | ⟨g, cap, cur, h1, _⟩
      · rw [h2]; exact ⟨none, 0, h1⟩
      · exact ⟨some ⟨g, 0, none⟩, cap, h1⟩
    clear hO
    obtain ⟨W', hW', d1, d2, d3, d4, d5, d6, d7⟩ := HO.out.done
    gi_wp2
    rw [← hW']
    have hg := grownBy_putObj' W' (w.heap.size + 8) (.deferred none)
    have e2 := (d2.kept hg (by simp)).cell
    have e3 := (d3.kept hg (by simp)).cell
    have e4 := (d4.kept hg (by simp)).cell
    refine ⟨by simp, .inl ⟨_, _, rfl, run_takeDeferred d1, .tuple #[.slice A acc.length c, .int .i64 0, .int .i64 0], ?_, _, acc, 0, 0, rfl, hp', ?_, ?_⟩⟩
    · simp [results, Tryd.results10, go_sem, e2, e3, e4]
    · exact d6.kept hg (own_ne d6 (by omega))
    · exact d5.grown hg (by omega) (by intro k e; cases e; omega)
  case hstop =>
    rintro pre W _ ⟨ln, er, hX, hp⟩
    gi_wp2
    have hg := grownBy_putObj' W (w.heap.size + 8) (.deferred none)
    have hz := hX.sz
    have e2 := (hX.r0.kept hg (by simp)).cell
    have e3 := (hX.r1.kept hg (by simp)).cell
    have e4 := (hX.r2.kept hg (by simp)).cell
    refine ⟨by simp, .inl ⟨_, _, rfl, run_takeDeferred hX.d, .tuple #[.slice none 0 0, .int .i64 ln, .int .i64 er], ?_, _, [], ln, er, rfl, hp, ⟨rfl, .inl ⟨rfl, rfl⟩⟩, ?_⟩⟩
    · simp [results, Tryd.results10, go_sem, e2, e3, e4]
    · exact hX.b.grown hg (by omega) (by intro k e; cases e; omega)

theorem reps_st (R : S36 → List Value → Prop) (hR : ∀ s, R (toS s) (cellsSt s)) : ∀ acc : List Spec.St, Reps R 5 (acc.map toS) (acc.flatMap cellsSt)
  | [] => Reps.none R 5
  | s :: r => Kd.reps_append (Reps.snoc (Reps.none R 5) (hR s) rfl) (reps_st R hR r)
theorem R_st {w : World} {base b : Nat} {v : Value} {acc : List Spec.St} (h : w.ownsRow b 36 5 v acc.length (acc.flatMap cellsSt)) (hb : base ≤ b) : Kd.R k36 36 w base (fun _ => True) v (acc.map toS) := by
  refine ⟨fun _ _ => trivial, acc.flatMap cellsSt, ?_, reps_st _ (fun s => k36_mkM w base _ (toS s)) acc⟩
  rw [List.length_map]
  refine ⟨h.1, ?_⟩
  rcases h.2 with e | ⟨g, cap, cur, e, h1, h2⟩
  · exact .inl e
  · exact .inr ⟨g, cap, cur, e, Nat.le_trans hb h1, h2⟩

set_option maxRecDepth 100000 in
set_option maxHeartbeats 2000000 in
theorem Parse_long (a0 : ByteArray) (hl : 65536 < (a0.size : Int)) (w : World) :
    Calls Tryd.prog 10 #[.string a0] w fun e w' => e = .returned (.tuple #[.slice none 0 0, .int .i64 0, .int .i64 3]) ∧ Below w.heap.size w w' := by
  have h0 : decide (65536 < (a0.size : Int)) = true := decide_eq_true hl
  go_enter Tryd.func10, Tryd.ntmps10
  go_wp2
  apply wp_scope_straight
  go_wp2
  rw [Exit.noGoto_ret]
  refine bodyPost_ret (v := .tuple #[.slice none 0 0, .int .i64 0, .int .i64 3]) (by simp [results, Tryd.results10, go_sem]) rfl ⟨rfl, ?_⟩
  exact (((Below.refl _ _).alloc (Nat.le_refl _) _).alloc (by simp) _).alloc (by simp; omega) _

theorem script_Parse.calls (a0 : ByteArray) (r1 : List S36) (r2 r3 : Int) (w : World) (h : script_Parse.f a0 = some (r1, r2, r3)) :
    Calls Tryd.prog 10 #[.string a0] w fun e w' => ∃ v0_, e = .returned (.tuple #[v0_, .int .i64 r2, .int .i64 r3]) ∧ Kd.R k36 36 w' w.heap.size (fun _ => True) v0_ r1 ∧ Below w.heap.size w w' := by
  have hlen : a0.data.toList.length = a0.size := Array.length_toList
  have h1 := Option.some.inj h
  simp only [ansP, Prod.mk.injEq] at h1
  obtain ⟨rfl, rfl, rfl⟩ := h1
  by_cases hl : 65536 < (a0.size : Int)
  · refine (Parse_long a0 hl w).mono ?_
    rintro e w' ⟨rfl, hb⟩
    have hp : Spec.parse a0.data.toList = ([], 0, 3) := if_pos (by omega)
    rw [hp]
    exact ⟨_, rfl, Kd.R_nil _ _ _ _ _, hb⟩
  · refine (Parse_short a0 (by omega) w).mono ?_
    rintro e w' ⟨v, acc, ln, er, rfl, hp0, hr, hb⟩
    have hp : Spec.parse a0.data.toList = (acc, ln, er) := by
      rw [← hp0]; exact if_neg (by omega)
    rw [hp]
    exact ⟨_, rfl, R_st hr (by omega), hb⟩

end Go.Proofs.YtpeokbbidipdkaaDoor.Q
