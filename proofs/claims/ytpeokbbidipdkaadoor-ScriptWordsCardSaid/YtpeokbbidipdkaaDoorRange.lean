/-
  A range over strings.SplitSeq: one law for the loop (outermost or within a round), where the iterator writes one box of its own between the rounds; and the iterator's own contract.
-/
import Derived.RangeFuncNested
import Derived.RangeFuncBound
import Derived.RangeFuncCalls
import Derived.RangeFuncLeaves
import Derived.WalkKit
import Derived.OwnWalkIn
import Derived.TacticsInMore
import Derived.LoopNIn
import Derived.LoopIn
import Derived.Test.YtpeokbbidipdkaaDoorSh
namespace Go.Proofs.YtpeokbbidipdkaaDoor.Range
open Go Go.RowKit
set_option linter.unusedVariables false

/-- The blocks from lo up to hi lie as they lay; none has gone. -/
structure Hold (lo hi : Nat) (W W' : World) : Prop where
  size : W.heap.size ≤ W'.heap.size
  same : ∀ k, lo ≤ k → k < hi → W'.heap[k]? = W.heap[k]?
theorem Hold.refl (lo hi : Nat) (W : World) : Hold lo hi W W := ⟨Nat.le_refl _, fun _ _ _ => rfl⟩
theorem Hold.trans {lo hi : Nat} {A B C : World} (h : Hold lo hi A B) (k : Hold lo hi B C) : Hold lo hi A C := ⟨Nat.le_trans h.size k.size, fun i h1 h2 => (k.same i h1 h2).trans (h.same i h1 h2)⟩
theorem Hold.sub {lo hi hi' : Nat} {A B : World} (h : Hold lo hi A B) (hh : hi' ≤ hi) : Hold lo hi' A B := ⟨h.size, fun i h1 h2 => h.same i h1 (Nat.lt_of_lt_of_le h2 hh)⟩
theorem Hold.put {lo hi l : Nat} {A : World} (o : Obj) (h : hi ≤ l) : Hold lo hi A (A.putObj l o) := ⟨by simp, fun k _ h2 => World.putObj_heap_other (by omega)⟩
theorem Hold.set {lo hi b j : Nat} {A B : World} (h : Hold lo hi A B) (hb : b < lo ∨ hi ≤ b) (v : Value) : Hold lo hi A (B.setCell ⟨b, j, none⟩ v) :=
  ⟨by have := h.size; simp [World.setCell]; exact this, fun k h1 h2 => (Below.heap_setCell B ⟨b, j, none⟩ v k (by show k ≠ b; omega)).trans (h.same k h1 h2)⟩
theorem Hold.below {lo hi : Nat} {A B C : World} (h : Hold lo hi A B) (hh : hi ≤ A.heap.size) (hb : Below B.heap.size B C) : Hold lo hi A C :=
  ⟨Nat.le_trans h.size hb.size, fun k h1 h2 => (hb.block k (by have := h.size; omega)).trans (h.same k h1 h2)⟩
theorem Hold.alloc {lo hi : Nat} {A B : World} (h : Hold lo hi A B) (hh : hi ≤ A.heap.size) (o : Obj) : Hold lo hi A (B.alloc o) := h.below hh ((Below.refl _ _).alloc (Nat.le_refl _) _)

def loopPost (lo l : Nat) (I : List ByteArray → World → Prop) (Ix : List ByteArray → World → Prop) (xs : List ByteArray) (W : World) : Exit → Act → World → Prop
  | .normal, _, W' => Hold lo (l + 1) W W' ∧ I xs W'
  | .ret, _, W' => Hold lo (l + 1) W W' ∧ Ix xs W'
  | _, _, _ => False

variable {F : Fence} {n : Nat} {P : Program}

theorem range_law {g : Operand} {p : Tmp} {assign body : Code} {Q : Exit → Act → World → Prop} {a : Act} {w : World}
    (h1 : 1 ≤ n) {gf : Nat} {lb : Array Value} (hg : a.eval g = .func (.func gf) #[] lb) (hFg : F.fn gf) (eg : ∀ args w, (callFunc gf args).run P w = .ok (.enter gf args) w)
    {l lo bs D : Nat} {mark : List Deferred} {w1 : FuncId → World} {rec : FuncId → LoopState → Option Code → Loop} (hlo : lo ≤ l) (hbl : bs ≠ l)
    (hrec : rec = fun fn st pe => { state := st, pending := pe, fn, tmps := a.tmps, params := #[p], assign, body, defers := D })
    (hent : ∀ fn, (Instr.enterLoop fn a.tmps #[p] assign body F.round).run P w = .ok (l, mark) (w1 fn))
    (hL : ∀ fn, (w1 fn).heap[l]? = some (.loop (rec fn .ready none)))
    {S Sp : List ByteArray → Prop} {N : List ByteArray → ByteArray → Prop}
    (hseq : ∀ fn (J Jx : List ByteArray → World → Prop), (∀ s W v, J s W → J s (W.setCell ⟨bs, 0, none⟩ v)) →
      (∀ pre x W, J pre W → N pre x → YieldAt F (n - 1 - 1) P l #[.string x] W fun e W' => (e = .returned (.bool true) ∧ J (pre ++ [x]) W' ∧ Hold lo l W W') ∨ (e = .returned (.bool false) ∧ Jx (pre ++ [x]) W')) →
      J [] (w1 fn) → CallsIn F (n - 1) P gf (#[.func (.yield l) #[] #[]] ++ lb) (w1 fn) fun e W' => (∃ v, e = .returned v) ∧ ((∃ xs, S xs ∧ J xs W') ∨ (∃ pre, Sp pre ∧ Jx pre W')))
    (I Ix : List ByteArray → World → Prop) (hIl : ∀ s W o, I s W → I s (W.putObj l o)) (hIxl : ∀ s W o, Ix s W → Ix s (W.putObj l o)) (hIs : ∀ s W v, I s W → I s (W.setCell ⟨bs, 0, none⟩ v)) (h0 : ∀ fn, I [] (w1 fn))
    (a₁ : ByteArray → Act)
    (hassign : ∀ (x : ByteArray) (W : World) (K : Act → World → Prop), K (a₁ x) W → assign.wpIn (F.inRound l) (n - 1 - 1) P (Exit.then K (fun _ _ _ => False)) { tmps := a.tmps.setIfInBounds p (.string x), defers := [] } W)
    (hbody : ∀ (pre : List ByteArray) (x : ByteArray) (W : World), (∃ r, W.heap[l]? = some (.loop r)) → I pre W → N pre x → body.wpIn (F.inRound l) (n - 1 - 1) P (loopPost lo l I Ix (pre ++ [x]) W) (a₁ x) W)
    (hdone : ∀ (xs : List ByteArray) (W : World), S xs → I xs W → Q .normal { a with defers := mark ++ a.defers } W)
    (hstop : ∀ (pre : List ByteArray) (W : World), Sp pre → Ix pre W → Code.ret.wpIn F n P Q { a with defers := mark ++ a.defers } W) :
    (Code.rangeFunc g #[p] assign body).wpIn F n P Q a w := by
  refine wpIn_rangeFunc ?_
  intro fn hfn
  refine ⟨l, mark, w1 fn, { target := .fn (.func gf) lb, args := #[.func (.yield l) #[] #[]] }, w1 fn, gf, #[.func (.yield l) #[] #[]] ++ lb, w1 fn, hent fn, ?_, ?_, ?_, fun _ => h1, ?_⟩
  · simp only [resolve, hg]
    simp [go_sem]
  · intro f' hf'
    simp [Target.leads] at hf'
    subst hf'
    exact hFg
  · simp [invoke, go_sem, eg]
  refine (hseq fn (fun pre W => I pre W ∧ W.heap[l]? = some (.loop (rec fn .ready none))) (fun pre W => Ix pre W ∧ W.heap[l]? = some (.loop (rec fn .done (some .ret)))) ?_ ?_ ⟨h0 fn, hL fn⟩).mono ?_
  · rintro s W v ⟨hi, hl⟩
    exact ⟨hIs s W v hi, (Below.heap_setCell W ⟨bs, 0, none⟩ v l (fun e => hbl e.symm)).trans hl⟩
  · rintro pre x W ⟨hi, hl⟩ hN
    have hlt : l < W.heap.size := (Array.getElem?_eq_some_iff.1 hl).1
    have hy := run_yield (P := P) (args := #[Value.string x]) hl (by rw [hrec]; rfl)
    rw [hrec] at hy
    refine ⟨fn, _, assign, body, hy, roundIn_of_wpIn hfn ?_⟩
    have e1 : (#[p].zip #[Value.string x]).foldl (fun t (p, v) => t.setIfInBounds p v) a.tmps = a.tmps.setIfInBounds p (.string x) := by simp [Array.zip]
    rw [e1]
    refine hassign x W _ ?_
    refine ⟨_, run_beginRound hl (by rw [hrec]), ?_⟩
    have hl2 : (W.putObj l (.loop { rec fn .ready none with state := .busy })).heap[l]? = some (.loop { rec fn .ready none with state := .busy }) := World.putObj_heap_same hlt
    refine wpIn_mono (hbody pre x _ ⟨_, hl2⟩ (hIl _ _ _ hi) hN) ?_
    have fin : ∀ (jump : Option Code) (W3 : World), Hold lo (l + 1) (W.putObj l (.loop { rec fn .ready none with state := .busy })) W3 →
        (Instr.endRound l jump).run P W3 = .ok (.bool jump.isNone) (W3.putObj l (.loop (rec fn (if jump.isNone then .ready else .done) jump))) ∧
        (W3.putObj l (.loop (rec fn (if jump.isNone then .ready else .done) jump))).heap[l]? = some (.loop (rec fn (if jump.isNone then .ready else .done) jump)) := by
      intro jump W3 hk3
      have hl3 := (hk3.same l hlo (Nat.lt_succ_self l)).trans hl2
      have := run_endRound (P := P) jump hl3
      rw [hrec] at this ⊢
      exact ⟨this, World.putObj_heap_same (Array.getElem?_eq_some_iff.1 hl3).1⟩
    rintro e a3 W3 hp
    cases e with
    | normal =>
      obtain ⟨hk3, hi3⟩ := hp
      obtain ⟨hr, hl4⟩ := fin none W3 hk3
      exact ⟨_, _, hr, .inl ⟨rfl, ⟨hIl _ _ _ hi3, hl4⟩, ((Hold.put _ (Nat.le_refl _)).trans (hk3.sub (Nat.le_succ _))).trans (Hold.put _ (Nat.le_refl _))⟩⟩
    | ret =>
      obtain ⟨hk3, hi3⟩ := hp
      obtain ⟨hr, hl4⟩ := fin (some .ret) W3 hk3
      exact ⟨_, _, hr, .inr ⟨rfl, hIxl _ _ _ hi3, hl4⟩⟩
    | exit id => exact hp.elim
    | goto t => exact hp.elim
    | panic ch => exact hp.elim
    | outgrown => exact hp.elim
  · rintro e W2 ⟨⟨v, rfl⟩, (⟨xs, hS, hi, hl⟩ | ⟨pre, hSp, hi, hl⟩)⟩
    · exact ⟨none, _, by have := run_endLoop (P := P) hl (by rw [hrec]; simp); rw [hrec] at this; exact this, hdone xs _ hS (hIl _ _ _ hi)⟩
    · exact ⟨some .ret, _, by have := run_endLoop (P := P) hl (by rw [hrec]; simp); rw [hrec] at this; exact this, hstop pre _ hSp (hIxl _ _ _ hi)⟩

end Go.Proofs.YtpeokbbidipdkaaDoor.Range
