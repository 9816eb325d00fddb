/-
  script.Text: walked once: it answers as the plain words say.
-/
import Derived.Test.YtpeokbbidipdkaaDoorBuilder
import Derived.Test.YtpeokbbidipdkaaDoorTextSpec
import Derived.Test.YtpeokbbidipdkaaDoorLine
import Derived.Test.YtpeokbbidipdkaaDoorItoa
import Derived.RangeFuncWrites
namespace Go.Proofs.YtpeokbbidipdkaaDoor.Q
open Go Go.RowKit Go.Proofs.YtpeokbbidipdkaaDoorW.PrintWords Go.Proofs.YtpeokbbidipdkaaDoorW.PrintLast Go.Proofs.YtpeokbbidipdkaaDoorW.PrintMore Go.Proofs.YtpeokbbidipdkaaDoor.Build
set_option linter.unusedVariables false
set_option linter.unusedSimpArgs false

def ofS (s : S36) : Spec.St := ⟨s.f0, s.f1, s.f2, s.f3, s.f4⟩
def fin (bs : List UInt8) (o : Option (List UInt8)) : ByteArray × Int := match o with | none => (⟨#[]⟩, 1) | some t => (⟨(bs ++ t).toArray⟩, 0)
def script_Text.f (l0 : List S36) : Option (ByteArray × Int) := if l0.length ≤ 1000000 then some (fin [] (Spec.textOf (l0.map ofS))) else none

theorem fin_map (bs c : List UInt8) (o : Option (List UInt8)) : fin bs (o.map (c ++ ·)) = fin (bs ++ c) o := by
  cases o <;> simp [fin]
theorem IsSt.keep {w w' : World} {b : Nat} {s : Spec.St} (h : IsSt w b s) (k : Keep w w') : IsSt w' b s := k b _ _ _ h (by decide) (by decide)
theorem R_keep3 {w w' : World} {base : Nat} {ok : Nat → Prop} {v : Value} {xs : List Int} (h : Kd.R (Kd.int .i64) 3 w base ok v xs) (k : Keep w w') : Kd.R (Kd.int .i64) 3 w' base (fun q => base ≤ q) v xs := by
  have h1 := Kd.R_bound h
  refine Kd.R_mono (Kd.R_move h1 ?_) (fun q hq => hq.2.1)
  rintro j ⟨_, _, _, q, hq, cells, hc⟩
  have : q = 3 := by simpa [Kd.int, Kd.scalar] using hq
  subst this
  rw [hc]; exact k j _ _ _ hc (by decide) (by decide)

theorem st_zero (r : Spec.St) (h0 : r.k = 0) (h1 : r.n = 0) (h2 : r.o = 0) (h3 : r.i = 0) (h4 : r.j = 0) : r = Spec.zeroSt := by
  obtain ⟨a, b, c, d, e⟩ := r
  simp only at h0 h1 h2 h3 h4
  subst h0 h1 h2 h3 h4
  rfl
theorem name_eq (k : Int) : (rdOf ByteArray.empty wordsB (k - 1)).data.toList = Spec.nameOf k := by
  unfold rdOf Spec.nameOf wordsB
  rw [List.getD_eq_getElem?_getD, List.getD_eq_getElem?_getD, List.getElem?_map]
  cases Spec.names[(k - 1).toNat]? <;> rfl
theorem nameOf_len (k : Int) : (Spec.nameOf k).length ≤ 7 := by
  unfold Spec.nameOf
  generalize (k - 1).toNat = n
  match n with
  | 0 | 1 | 2 | 3 | 4 | 5 | 6 | 7 | 8 | 9 | 10 => decide
  | n + 11 => simp [Spec.names]

/-- A round's state: the builder and what lies below the call. -/
structure TX (w : World) (bs : List UInt8) (W : World) : Prop where
  bld : Lib.IsBuilder 49 5 w.heap.size w.heap.size (Lib.byteCells bs) W
  b : Below w.heap.size w W
  sz : w.heap.size < W.heap.size
theorem TX.below {w W W' : World} {bs : List UInt8} (h : TX w bs W) (hb : Below W.heap.size W W') : TX w bs W' := by
  have hat : ∀ p, Lib.BuilderAt 49 5 w.heap.size w.heap.size p (Lib.byteCells bs) W → Lib.BuilderAt 49 5 w.heap.size w.heap.size p (Lib.byteCells bs) W' := by
    rintro p ⟨hB, v, hbk, hown, hne⟩
    exact ⟨hB, v, (hb.block _ h.sz).trans hbk, hown.kept ⟨hb.os, hb.tape, hb.output, hb.size, fun k hk (_ : some k ≠ none) => hb.block k hk⟩ (by cases v.ownBlock <;> simp), hne⟩
  exact ⟨h.bld.imp (hat _) (hat _), h.b.trans (hb.mono (Nat.le_of_lt h.sz)), Nat.lt_of_lt_of_le h.sz hb.size⟩
theorem TX.wrote {w W W' : World} {bs cs : List UInt8} (h : TX w bs W) (hb : Lib.BuilderAt 49 5 w.heap.size w.heap.size (.pointer (some ⟨w.heap.size, 0, none⟩)) (Lib.byteCells bs ++ Lib.byteCells cs) W') (hw : Below w.heap.size W W') : TX w (bs ++ cs) W' :=
  ⟨.inr (by rw [Lib.byteCells_append]; exact hb), h.b.trans hw, Nat.lt_of_lt_of_le h.sz hw.size⟩
theorem TX.set {w W : World} {bs : List UInt8} {b j : Nat} {c : Array Value} {z : Nat × Nat} {v : Value} (h : TX w bs W) (hb : W.heap[b]? = some (.cells c 36 z)) (hw : w.heap.size ≤ b) : TX w bs (W.setCell ⟨b, j, none⟩ v) := by
  have hs : W.grownBy (W.setCell ⟨b, j, none⟩ v) (some b) := ⟨rfl, rfl, rfl, (KeepsWalks.setCell W _ v).size, fun k _ hk => Below.heap_setCell _ _ _ k (fun e => hk (by rw [e]))⟩
  have hat : ∀ p, Lib.BuilderAt 49 5 w.heap.size w.heap.size p (Lib.byteCells bs) W → Lib.BuilderAt 49 5 w.heap.size w.heap.size p (Lib.byteCells bs) (W.setCell ⟨b, j, none⟩ v) := by
    rintro p ⟨hB, u, hbk, hown, hne⟩
    have n1 : w.heap.size ≠ b := by
      intro e; rw [← e, hbk] at hb; simp at hb
    refine ⟨hB, u, (Below.heap_setCell W ⟨b, j, none⟩ v _ n1).trans hbk, hown.kept hs ?_, hne⟩
    rcases hown.2 with ⟨rfl, _⟩ | ⟨g, cap, cur, rfl, _, hgb, _⟩
    · exact .inl rfl
    · refine .inr fun e => ?_
      obtain rfl : g = b := by simpa [Value.ownBlock] using e
      rw [hgb] at hb; simp at hb
  exact ⟨h.bld.imp (hat _) (hat _), h.b.setCell (p := ⟨b, j, none⟩) hw v, by have := hs.size; have := h.sz; omega⟩
theorem spaced (l : List UInt8) : Lib.strCells ((⟨#[32]⟩ : ByteArray) ++ ⟨l.toArray⟩) = Lib.byteCells (32 :: l) := by
  rw [Lib.strCells_eq, ByteArray.data_append]; simp
theorem TX.glob {w W : World} {bs : List UInt8} (h : TX w bs W) (hG : Glob w) : Glob W := hG.below h.b

set_option maxHeartbeats 1000000 in
set_option maxRecDepth 100000 in
theorem script_Text.calls (A0 : Option Addr) (c0 : Nat) (l0 : List S36) (r1 : ByteArray) (r2 : Int) (w : World) (hG_ : Glob w) (hr0 : Kd.C k36 w A0 l0.length l0) (hc0 : l0.length ≤ c0) (h : script_Text.f l0 = some (r1, r2)) :
    Calls Tryd.prog 13 #[.slice A0 l0.length c0] w fun e w' => e = .returned (.tuple #[.string r1, .int .i64 r2]) ∧ Below w.heap.size w w' := by
  have hu36 := Tryd.underlying36
  have HG := Aside0.mk hG_
  have HR0 := Aside0.mk hr0
  have HC0 := Aside0.mk hc0
  clear hG_ hr0 hc0
  unfold script_Text.f at h
  by_cases hlen : l0.length ≤ 1000000
  case neg => rw [if_neg hlen] at h; cases h
  rw [if_pos hlen] at h
  have HF := Aside0.mk (Option.some.inj h)
  clear h
  go_enter Tryd.func13, Tryd.ntmps13
  go_upto_region 2 with fail
  obtain ⟨W0, hW0⟩ : ∃ W0, w.alloc (.cells #[.pointer none, .slice none 0 0] 49) = W0 := ⟨_, rfl⟩
  have hT0 : TX w [] W0 := by
    rw [← hW0]
    exact ⟨Lib.fresh_isBuilder 49 5 w, (Below.refl _ _).alloc (Nat.le_refl _) _, by simp⟩
  rw [hW0]
  have HT := Aside0.mk hT0
  clear hT0 hW0
  go_wp2_with fail
  go_loopw [13] (fun i wr => ∃ (j : Nat) (bs : List UInt8), i = .int .i64 j ∧ j ≤ l0.length ∧ Aside0 (TX w bs wr) ∧ Aside0 (fin bs (Spec.textOf ((l0.drop j).map ofS)) = (r1, r2)) ∧ bs.length ≤ 200 * j) (fun i _ => l0.length - (intOf i).toNat)
  case atStart => exact ⟨0, [], rfl, Nat.zero_le _, HT, ⟨HF.out⟩, by simp⟩
  case round =>
    obtain ⟨j, bs, rfl, hj, HTR, HA, hbl⟩ := hrel
    clear HT HF
    by_cases hlt : j < l0.length
    · obtain ⟨ad, rfl, x0, x1, x2, x3, x4⟩ := at_T36 HR0.out (j : Int) (by omega) (by omega)
      obtain ⟨s, hs⟩ : ∃ s, rd_T36 l0 (j : Int) = s := ⟨_, rfl⟩
      rw [hs] at x0 x1 x2 x3 x4
      rw [Int.toNat_natCast] at x0 x1 x2 x3 x4
      have hbr := HTR.out.b
      replace x0 := (hbr.cell (World.block_lt_of_cell? w _ x0)).trans x0
      replace x1 := (hbr.cell (World.block_lt_of_cell? w _ x1)).trans x1
      replace x2 := (hbr.cell (World.block_lt_of_cell? w _ x2)).trans x2
      replace x3 := (hbr.cell (World.block_lt_of_cell? w _ x3)).trans x3
      replace x4 := (hbr.cell (World.block_lt_of_cell? w _ x4)).trans x4
      have hj1 : decide ((j : Int) < (l0.length : Int)) = true := by simpa using hlt
      have hdr : (l0.drop j).map ofS = ofS s :: (l0.drop (j + 1)).map ofS := by
        have e : rd_T36 l0 (j : Int) = l0[j] := by simp [rd_T36, List.getD_eq_getElem?_getD, hlt]
        rw [List.drop_eq_getElem_cons hlt, List.map_cons, ← hs, e]
      have HA2 := HA.out
      rw [hdr] at HA2
      have HA3 := Aside0.mk HA2
      clear HA2 hdr hs HA hbr
      go_upto_region 5 with fail
      obtain ⟨W4, hW4⟩ : ∃ W4, wr.alloc (.cells #[.int .i64 s.f0, .int .i64 s.f1, .int .i64 s.f2, .int .i64 s.f3, .int .i64 s.f4] 36) = W4 := ⟨_, rfl⟩
      have hst4 : IsSt W4 wr.heap.size (ofS s) := by rw [← hW4]; exact blk_new _ _
      have hb4 : Below wr.heap.size wr W4 := by rw [← hW4]; exact (Below.refl _ _).alloc (Nat.le_refl _) _
      have hT4 := HTR.out.below hb4
      have hs4 : W4.heap.size = wr.heap.size + 1 := by rw [← hW4]; simp
      have HS4 := Aside0.mk hs4
      rw [hW4]
      clear hs4
      clear hW4 x0 x1 x2 x3 x4
      obtain ⟨z0, z1, z2, z3, z4, f0, f1, f2, f3, f4⟩ := hst4.facts
      simp only [ofS] at z0 z1 z2 z3 z4
      by_cases hk : s.f0 < 1 ∨ 11 < s.f0
      · have HA4 := HA3.out
        rw [Spec.textOf_bad (ofS s) _ hk] at HA4
        obtain ⟨rfl, rfl⟩ : r1 = ⟨#[]⟩ ∧ r2 = 1 := by simpa [fin, eq_comm] using HA4
        have hbw := hT4.b
        clear HA4 HA3
        by_cases hk1 : s.f0 < 1
        · have d1 : decide (s.f0 < 1) = true := decide_eq_true hk1
          go_wp2_with fail
          go_ret2
          exact ⟨rfl, hbw⟩
        · have d1 : decide (s.f0 < 1) = false := decide_eq_false hk1
          have d2 : decide (11 < s.f0) = true := decide_eq_true (by omega)
          go_wp2_with fail
          go_ret2
          exact ⟨rfl, hbw⟩
      · have HA4 := HA3.out
        rw [Spec.textOf_good (ofS s) _ hk, fin_map] at HA4
        have HA5 := Aside0.mk HA4
        clear HA4 HA3
        have d1 : decide (s.f0 < 1) = false := decide_eq_false (by omega)
        have d2 : decide (11 < s.f0) = false := decide_eq_false (by omega)
        have HK := Aside0.mk hk
        clear hk
        go_upto_region 9 with fail
        obtain ⟨W5, hW5⟩ : ∃ W5, W4.alloc (.cells #[.int .i64 0, .int .i64 s.f1, .int .i64 s.f2, .int .i64 s.f3, .int .i64 s.f4] 36) = W5 := ⟨_, rfl⟩
        have hb5 : Below W4.heap.size W4 W5 := by rw [← hW5]; exact (Below.refl _ _).alloc (Nat.le_refl _) _
        have hst5 : IsSt W5 wr.heap.size (ofS s) := hst4.below hb5
        have hr5 : IsSt W5 W4.heap.size { ofS s with k := 0 } := by rw [← hW5]; exact blk_new _ _
        have hT5 := hT4.below hb5
        have hs5 : W5.heap.size = W4.heap.size + 1 := by rw [← hW5]; simp
        have HS5 := Aside0.mk hs5
        rw [hW5]
        clear hs5
        have HT4 := Aside0.mk hT4.sz
        clear hW5 z0 z1 z2 z3 z4 f0 f1 f2 f3 f4 hst4 hT4
        obtain ⟨z0, z1, z2, z3, z4, f0, f1, f2, f3, f4⟩ := hst5.facts
        simp only [ofS] at z0 z1 z2 z3 z4
        have HR5 := Aside0.mk hr5
        have HT5 := Aside0.mk hT5
        have HST5 := Aside0.mk hst5
        clear hr5 hT5 hst5 d1 d2
        obtain ⟨nm, HNM⟩ : ∃ nm, Aside0 (rdOf ByteArray.empty wordsB (s.f0 - 1) = nm) := ⟨_, ⟨rfl⟩⟩
        have hnd : nm.data.toList = Spec.nameOf s.f0 := by rw [← HNM.out]; exact name_eq s.f0
        have hnl : nm.size ≤ 7 := by
          have e1 : nm.data.toList.length = nm.size := Array.length_toList
          have e2 := nameOf_len s.f0
          rw [← hnd] at e2
          omega
        have i0 : IntKind.i64.wrap (s.f0 - 1) = s.f0 - 1 := by have := HK.out; rw [IntKind.wrap_i64]; omega
        have i3 : s.f0 - 1 < 11 := by have := HK.out; omega
        have i1 : 0 ≤ s.f0 - 1 := by have := HK.out; omega
        have i2 : s.f0 - 1 < (wordsB.length : Int) := by have := HK.out; show s.f0 - 1 < 11; omega
        have HLEN : Aside0 ((Lib.byteCells bs).length + nm.size ≤ 140737488355328) := ⟨by rw [Lib.byteCells_length]; omega⟩
        go_cut [] (fun wx => TX w (bs ++ Spec.nameOf s.f0) wx ∧ IsSt wx wr.heap.size (ofS s) ∧ IsSt wx W4.heap.size { ofS s with k := 0 })
        case first =>
          go_region_with (first
            | (go_at_call 19; refine (script_words.calls wordsB _ words_f).mono ?_; rintro e w1 ⟨v, rfl, hv, hb1⟩; replace hb1 := ((Below.refl W5.heap.size W5).drew).trans hb1; obtain ⟨Aw, cw, rfl, hlw, hCw⟩ := Kd.R_reads hv; obtain ⟨aw, rfl, hx⟩ := Kd.at_string hCw (s.f0 - 1) (by have := HK.out; omega) (by have := HK.out; show s.f0 - 1 < 11; omega); rw [HNM.out] at hx; have hx2 := hx; rw [Int.pred_toNat] at hx2; have hst6 := HST5.out.below hb1; have y0 := hst6.facts.1; simp only [ofS] at y0; have HT6 := Aside0.mk (HT5.out.below hb1); have HL6 : Aside0 (w.heap.size ≤ w1.heap.size) := ⟨Nat.le_of_lt HT6.out.sz⟩; clear hv hCw)
            | (go_at_call 18; refine (writeString w.heap.size w.heap.size (Lib.byteCells bs) nm _ HT6.out.bld HLEN.out HL6.out).mono ?_; rintro e w2 ⟨rfl, hB2, hb2, hk2⟩; have HT7 := Aside0.mk (TX.wrote (cs := Spec.nameOf s.f0) HT6.out (by rw [← hnd]; exact hB2) hb2); have HST7 := Aside0.mk (hst6.keep hk2); have HR7 := Aside0.mk ((HR5.out.below hb1).keep hk2)))
          all_goals (go_wp2_with fail; go_meet)
          all_goals exact ⟨HT7.out, HST7.out, HR7.out⟩
        case rest =>
          obtain ⟨hT6, hst6, hr6⟩ := hcut
          clear HT5 HR5 HST5 HTR z0 z1 z2 z3 z4 f0 f1 f2 f3 f4 i0 i1 i2 i3 hb4 hb5
          have y0 := hst6.facts.1
          simp only [ofS] at y0
          obtain ⟨fs, hfs⟩ : ∃ fs, fs = Spec.fieldsOf s.f0 := ⟨_, rfl⟩
          have hff := fields_f s.f0
          rw [← hfs] at hff
          have hf3 : fs.length ≤ 3 := by rw [hfs]; exact fieldsOf_len s.f0
          obtain ⟨REST, hrest⟩ : ∃ REST, REST = Spec.textOf ((l0.drop (j + 1)).map ofS) := ⟨_, rfl⟩
          have HA6 : Aside0 (fin (bs ++ Spec.nameOf s.f0) (Spec.endText (Spec.fieldsText fs { ofS s with k := 0 }) REST) = (r1, r2)) := by
            rw [hfs, hrest]; exact ⟨HA5.out⟩
          have HREST := Aside0.mk hrest
          have HFF := Aside0.mk hff
          have HFS := Aside0.mk hfs
          have HNL : Aside0 ((bs ++ Spec.nameOf s.f0).length ≤ bs.length + 7) := ⟨by rw [List.length_append, ← hnd]; have : nm.data.toList.length = nm.size := Array.length_toList; omega⟩
          have hrsz := hr6.lt
          clear HA5 hrest hff hfs
          go_upto_region 11 with (go_at_call 20; refine (script_fields.calls 4 s.f0 _ _ HFF.out).mono ?_; rintro e w7 ⟨v, rfl, hv, hb7⟩; obtain ⟨Ag, cg, rfl, hlg, hCg⟩ := Kd.R_reads hv; have hT7 := hT6.below hb7; have hr7 := hr6.below hb7; clear hCg)
          have hv0 : Kd.R (Kd.int .i64) 3 w7 wc.heap.size (fun q => wc.heap.size ≤ q) (.slice Ag fs.length cg) fs := Kd.R_mono (Kd.R_bound hv) (fun q hq => hq.2.1)
          have HT7 := Aside0.mk hT7
          have HR7 := Aside0.mk hr7
          have HV7 := Aside0.mk hv0
          have HRS := Aside0.mk hrsz
          have HW4 : Aside0 (w.heap.size ≤ W4.heap.size) := ⟨Nat.le_of_lt HT4.out⟩
          clear hT7 hr7 hv0 hv hT6 hst6 hr6 y0 hb7 hrsz
          go_loopw [38] (fun i wr2 => ∃ (j2 : Nat) (r : Spec.St) (bs2 : List UInt8), i = .int .i64 j2 ∧ j2 ≤ fs.length ∧ Aside0 (TX w bs2 wr2) ∧ IsSt wr2 W4.heap.size r ∧ Aside0 (Kd.R (Kd.int .i64) 3 wr2 wc.heap.size (fun q => wc.heap.size ≤ q) (.slice Ag fs.length cg) fs) ∧
            Aside0 (fin bs2 (Spec.endText (Spec.fieldsText (fs.drop j2) r) REST) = (r1, r2)) ∧ bs2.length ≤ bs.length + 7 + 22 * j2) (fun i _ => fs.length - (intOf i).toNat)
          case atStart => exact ⟨0, _, _, rfl, Nat.zero_le _, HT7, HR7.out, HV7, HA6, HNL.out⟩
          case round =>
            obtain ⟨j2, r, bs2, rfl, hj2, HTR2, hr, HVR, HAR, hbl2⟩ := hrel
            clear HT7 HR7 HV7 HA6 HNL
            by_cases hlt2 : j2 < fs.length
            · obtain ⟨A1, c1, e1, _, hC1⟩ := Kd.R_reads HVR.out
              obtain ⟨rfl, rfl⟩ : Ag = A1 ∧ cg = c1 := by injection e1 with e1 _ e2; exact ⟨e1, e2⟩
              obtain ⟨ag, eg, hcg⟩ := Kd.at_int hC1 (j2 : Int) (by omega) (by omega)
              subst eg
              rw [Int.toNat_natCast] at hcg
              obtain ⟨f, hf⟩ : ∃ f, f = rd fs (j2 : Int) := ⟨_, rfl⟩
              rw [← hf] at hcg
              have hj21 : decide ((j2 : Int) < (fs.length : Int)) = true := by simpa using hlt2
              have hfe : fs.drop j2 = f :: fs.drop (j2 + 1) := by
                rw [List.drop_eq_getElem_cons hlt2, hf]
                simp [rd, List.getD_eq_getElem?_getD, hlt2]
              have HAF := HAR.out
              rw [hfe] at HAF
              have HAG := Aside0.mk HAF
              clear hfe hf e1 hC1 HAF HAR
              have hoc := hr.cell_off f
              have hof := hr.frozen (offOf f)
              obtain ⟨x, hx⟩ : ∃ x, Aside0 (Spec.get r f = x) := ⟨_, ⟨rfl⟩⟩
              rw [hx.out] at hoc
              by_cases hw : Spec.wide x
              · have hb2 := HTR2.out.b
                have HAH := HAG.out
                rw [Spec.fieldsText_wide _ _ _ (by rw [hx.out]; exact hw)] at HAH
                obtain ⟨rfl, rfl⟩ : r1 = ⟨#[]⟩ ∧ r2 = 1 := by simpa [fin, Spec.endText, eq_comm] using HAH
                clear HAH HAG
                by_cases hw1 : x ≤ -1000000000000000000
                · have d1 : decide (x ≤ -1000000000000000000) = true := decide_eq_true hw1
                  go_wp2_with (go_at_call 21; refine (script_at.calls W4.heap.size f _).mono ?_; rintro e w7 ⟨rfl, rfl⟩; rw [← offOf_def])
                  go_ret2
                  exact ⟨rfl, hb2⟩
                · have d1 : decide (x ≤ -1000000000000000000) = false := decide_eq_false hw1
                  have d2 : decide (1000000000000000000 ≤ x) = true := decide_eq_true (by unfold Spec.wide at hw; omega)
                  go_wp2_with (go_at_call 21; refine (script_at.calls W4.heap.size f _).mono ?_; rintro e w7 ⟨rfl, rfl⟩; rw [← offOf_def])
                  go_ret2
                  exact ⟨rfl, hb2⟩
              · have HAH := HAG.out
                rw [Spec.fieldsText_ok _ _ _ (by rw [hx.out]; exact hw), hx.out, Spec.endText_step, fin_map] at HAH
                have HAI := Aside0.mk HAH
                have d1 : decide (x ≤ -1000000000000000000) = false := decide_eq_false (by unfold Spec.wide at hw; omega)
                have d2 : decide (1000000000000000000 ≤ x) = false := decide_eq_false (by unfold Spec.wide at hw; omega)
                have HIT : Aside0 (strconv_Itoa_22.f x = some ⟨(Lib.itoa x).toArray⟩) := ⟨by unfold strconv_Itoa_22.f; rw [if_pos (by unfold Spec.wide at hw; omega)]⟩
                have hil := Spec.itoa_len x hw
                have HSC := Aside0.mk (spaced (Lib.itoa x))
                have HL2 : Aside0 ((Lib.byteCells bs2).length + ((⟨#[32]⟩ : ByteArray) ++ ⟨(Lib.itoa x).toArray⟩).size ≤ 140737488355328) := ⟨by rw [Lib.byteCells_length, ByteArray.size_append]; show bs2.length + (1 + (Lib.itoa x).toArray.size) ≤ _; rw [List.size_toArray]; omega⟩
                clear HAH HAG hw
                go_wp2_with (first
                  | (go_at_call 21; refine (script_at.calls W4.heap.size f _).mono ?_; rintro e w7 ⟨rfl, rfl⟩; rw [← offOf_def])
                  | (go_at_call 22; refine (strconv_Itoa_22.calls x _ _ (HTR2.out.glob HG.out) HIT.out).mono ?_; rintro e w8 ⟨rfl, hb8⟩; have HT8 := Aside0.mk (HTR2.out.below hb8); have HR8 := Aside0.mk (hr.below hb8); have HV8 := Aside0.mk (Kd.R_below HVR.out hb8))
                  | (go_at_call 18; refine (writeString w.heap.size w.heap.size (Lib.byteCells bs2) _ _ HT8.out.bld HL2.out (Nat.le_of_lt HT8.out.sz)).mono ?_; rintro e w9 ⟨rfl, hB9, hb9, hk9⟩; rw [HSC.out] at hB9; have HT9 := Aside0.mk (TX.wrote HT8.out hB9 hb9); have hr9 := HR8.out.keep hk9; have HV9 := Aside0.mk (R_keep3 HV8.out hk9); have hoc9 := hr9.cell_off f; rw [hx.out] at hoc9; have hof9 := hr9.frozen (offOf f))
                  )
                go_roundw
                case rel =>
                  refine ⟨j2 + 1, Spec.put r f 0, bs2 ++ 32 :: Lib.itoa x, by go_num, by omega, ⟨HT9.out.set hr9 HW4.out⟩, hr9.store f 0, ⟨Kd.R_far (p := ⟨W4.heap.size, offOf f, none⟩) HV9.out (fun q hq => by have := HRS.out; show q ≠ W4.heap.size; omega) _⟩, HAI, by simp; omega⟩
                case measure => simp [intOf]; omega
            · obtain rfl : j2 = fs.length := by omega
              have HAF := HAR.out
              rw [List.drop_of_length_le (Nat.le_refl _)] at HAF
              simp only [Spec.fieldsText, Spec.endText, List.nil_append] at HAF
              have HAG := Aside0.mk HAF
              clear HAF HAR
              obtain ⟨z0, z1, z2, z3, z4, f0, f1, f2, f3, f4⟩ := hr.facts
              have hbw := HTR2.out.b
              by_cases hz : r = Spec.zeroSt
              · have HAH := HAG.out
                rw [if_pos hz] at HAH
                have HAI := Aside0.mk HAH
                clear HAH HAG
                subst hz
                simp only [Spec.zeroSt] at z0 z1 z2 z3 z4
                have HLB : Aside0 ((Lib.byteCells bs2).length + 1 ≤ 140737488355328) := ⟨by rw [Lib.byteCells_length]; omega⟩
                go_wp2_with (go_at_call 23; refine (writeByte w.heap.size w.heap.size (Lib.byteCells bs2) 10 _ HTR2.out.bld HLB.out (Nat.le_of_lt HTR2.out.sz)).mono ?_; rintro e w9 ⟨rfl, hB9, hb9, hk9⟩)
                go_roundw
                case rel =>
                  refine ⟨j + 1, bs2 ++ [10], by go_num, by omega, ⟨TX.wrote (cs := [10]) HTR2.out hB9 hb9⟩, ⟨?_⟩, by simp; omega⟩
                  rw [← HREST.out, ← fin_map]
                  exact HAI.out
                case measure => simp [intOf]; omega
              · have HAH := HAG.out
                rw [if_neg hz] at HAH
                obtain ⟨rfl, rfl⟩ : r1 = ⟨#[]⟩ ∧ r2 = 1 := by simpa [fin, eq_comm] using HAH
                clear HAH HAG
                go_wp2_with fail
                all_goals first | (go_ret2; exact ⟨rfl, hbw⟩) | exact absurd (st_zero r (by assumption) (by assumption) (by assumption) (by assumption) (by assumption)) hz
    · obtain rfl : j = l0.length := by omega
      have HAF := HA.out
      rw [List.drop_of_length_le (Nat.le_refl _)] at HAF
      obtain ⟨rfl, rfl⟩ : r1 = ⟨bs.toArray⟩ ∧ r2 = 0 := by simpa [Spec.textOf, fin, eq_comm] using HAF
      clear HAF HA
      go_wp2_with (go_at_call 24; refine (Tryd.Builder_String_any w.heap.size w.heap.size bs _ HTR.out.bld (Nat.le_of_lt HTR.out.sz)).mono ?_; rintro e w9 ⟨rfl, hb9⟩)
      go_ret2
      exact ⟨rfl, HTR.out.b.trans hb9⟩
end Go.Proofs.YtpeokbbidipdkaaDoor.Q
